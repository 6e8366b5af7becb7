-- Printed by xprint.py (a program of this work, over the kit's print.py). Lean checks it.
import Derived.Test.YtgippbgcmmjnbaaXB0
import Derived.Test.YtgippbgcmmjnbaaXBL
import Derived.Test.YtgippbgcmmjnbaaXBfretconref23May
namespace Go.Proofs.Ytgippbgcmmjnbaa.XB
open Go.RowKit Go.Proofs.YtgippbgcmmjnbaaW.PrintWords Go.Proofs.YtgippbgcmmjnbaaW.PrintLast Go.Proofs.YtgippbgcmmjnbaaW.PrintMore
attribute [local go_sem] max2_int min2_int max_two min_two max_three min_three max_four min_four   -- for this text's walks alone
set_option linter.unusedVariables false
set_option linter.unusedSimpArgs false
attribute [local go_sem ↓ high] ld27
attribute [local go_sem high] LD27.new
/-! ### retconref23_Kept: function 13 -/
def retconref23_Kept.l0 : Nat → List (S27) → Int → List (S27) → Int → Option ((List (S27)))
  | 0, _, _, _, _ => none
  | k + 1, x0, x1, x5, x6 => if x6 < (x0.length : Int) then (if 0 ≤ x6 then (if ((rd_T27 x0 x6).f0) ≤ x1 then (if x5.length < 3518437208883 then (retconref23_Kept.l0 k x0 x1 (x5 ++ [(⟨(rd_T27 x0 x6).f0, (⟨(rd_T27 x0 x6).f1.f0, (rd_T27 x0 x6).f1.f1, (rd_T27 x0 x6).f1.f2, (rd_T27 x0 x6).f1.f3, (rd_T27 x0 x6).f1.f4, (rd_T27 x0 x6).f1.f5, (rd_T27 x0 x6).f1.f6, (rd_T27 x0 x6).f1.f7, (rd_T27 x0 x6).f1.f8, (rd_T27 x0 x6).f1.f9, (rd_T27 x0 x6).f1.f10, (rd_T27 x0 x6).f1.f11, (rd_T27 x0 x6).f1.f12, (rd_T27 x0 x6).f1.f13, (rd_T27 x0 x6).f1.f14, (rd_T27 x0 x6).f1.f15, (rd_T27 x0 x6).f1.f16, (rd_T27 x0 x6).f1.f17, (rd_T27 x0 x6).f1.f18, (rd_T27 x0 x6).f1.f19, (rd_T27 x0 x6).f1.f20, (rd_T27 x0 x6).f1.f21, (rd_T27 x0 x6).f1.f22, (rd_T27 x0 x6).f1.f23, (rd_T27 x0 x6).f1.f24, (rd_T27 x0 x6).f1.f25, (rd_T27 x0 x6).f1.f26, (rd_T27 x0 x6).f1.f27, (rd_T27 x0 x6).f1.f28, (rd_T27 x0 x6).f1.f29, (rd_T27 x0 x6).f1.f30, (rd_T27 x0 x6).f1.f31⟩ : S25)⟩ : S27)]) (wrap64 (x6 + 1))) else (none)) else (retconref23_Kept.l0 k x0 x1 x5 (wrap64 (x6 + 1)))) else (none)) else (some x5)
def retconref23_Kept.f (k : Nat) (l0 : List (S27)) (a1 : Int) : Option ((List (S27))) := (retconref23_May.f k l0 500).bind fun t117 => (if t117 = 0 then (retconref23_Kept.l0 k l0 a1 ([] : List (S27)) 0) else (some ([] : List (S27))))
theorem retconref23_Kept.mono_l : ∀ k, (∀ y0 y1 y2 y3, LeO (retconref23_Kept.l0 k y0 y1 y2 y3) (retconref23_Kept.l0 (k + 1) y0 y1 y2 y3))
  | 0 => fun _ _ _ _ r h => by simp [retconref23_Kept.l0] at h
  | k + 1 => by
    have ih0 := retconref23_Kept.mono_l k
    · intro y0 y1 y2 y3
      unfold retconref23_Kept.l0
      repeat' first
      | (with_reducible exact ih0 _ _ _ _)
      | (with_reducible exact retconref23_May.mono _ _ _)
      | (with_reducible exact LeO.refl _)
      | (with_reducible exact LeO.none _)
      | (with_reducible refine LeO.ite ?_ ?_)
      | (with_reducible refine LeO.bind ?_ (fun _ => ?_))
      | exact ih0 _ _ _ _
      | exact retconref23_May.mono _ _ _
      | exact LeO.none _
      | refine LeO.ite ?_ ?_
      | refine LeO.bind ?_ (fun _ => ?_)
theorem retconref23_Kept.mono : ∀ a0 a1 k, LeO (retconref23_Kept.f k a0 a1) (retconref23_Kept.f (k + 1) a0 a1) := by
  intro a0 a1 k
  have ih0 := retconref23_Kept.mono_l k
  unfold retconref23_Kept.f
  repeat' first
      | (with_reducible exact ih0 _ _ _ _)
      | (with_reducible exact retconref23_May.mono _ _ _)
      | (with_reducible exact LeO.refl _)
      | (with_reducible exact LeO.none _)
      | (with_reducible refine LeO.ite ?_ ?_)
      | (with_reducible refine LeO.bind ?_ (fun _ => ?_))
      | exact ih0 _ _ _ _
      | exact retconref23_May.mono _ _ _
      | exact LeO.none _
      | refine LeO.ite ?_ ?_
      | refine LeO.bind ?_ (fun _ => ?_)
set_option maxHeartbeats 8000000 in
set_option maxRecDepth 100000 in
theorem retconref23_Kept.calls (k : Nat) (A0 : Option Addr) (c0 : Nat) (l0 : List (S27)) (a1 : Int) (r : List (S27)) (w : World) (hr0 : Kd.C k27 w A0 l0.length l0) (hc0 : l0.length ≤ c0) (h : retconref23_Kept.f k l0 a1 = some r) :
    Calls Try.prog 13 #[.slice A0 l0.length c0, .int .i64 a1] w fun e w' => ∃ v0_ : Value, e = .returned (v0_) ∧ Kd.R k27 27 w' w.heap.size (fun _ => True) v0_ r ∧ Below w.heap.size w w' := by
  have hu27 := Try.underlying27
  have HR0 := Aside0.mk hr0
  have HC0 := Aside0.mk hc0
  clear hr0 hc0
  have HB := Aside0.mk (Below.refl w.heap.size w)
  have H : ((retconref23_May.f k l0 500).bind fun t117 => (if t117 = 0 then (retconref23_Kept.l0 k l0 a1 ([] : List (S27)) 0) else (some ([] : List (S27))))) = some r := h
  clear h
  replace H := Option.bind_eq_some_iff.mp H
  obtain ⟨t117, A30, H⟩ := H
  replace H : (if t117 = 0 then (retconref23_Kept.l0 k l0 a1 ([] : List (S27)) 0) else (some ([] : List (S27)))) = some r := H
  have A3 := Aside0.mk A30
  clear A30
  by_cases c4 : t117 = 0
  · rw [if_pos c4] at H
    have c4b0 : (t117 == 0) = true := beq_iff_eq.mpr c4
    have c4b1 : (t117 != 0) = false := bne_eq_false_iff_eq.mpr c4
    clear c4
    have H' := Aside0.mk H
    clear H
    go_enter Try.func13, Try.ntmps13
    go_wp2_with (first | ((with_reducible refine gate_callee (f := 21) rfl ?_); refine goesL_ (some 8) rfl rfl Try.func21 (by kernel_rfl) rfl #[.slice A0 l0.length c0, .int .i64 500] rfl (by (try simp only [List.map_toArray, List.map_cons, List.map_nil]); first | done | rfl | (simp only [List.length_drop, List.length_take]; rfl)) ?_; (with_reducible refine (retconref23_May.calls k _ _ l0 500 t117 _ ?side1 ?side2 A3.out).mono ?_); (case side1 => repeat (first | exact HR0.out | (with_reducible refine Kd.C_alloc ?_ _) | (with_reducible refine Kd.C_drewN ?_ _) | (with_reducible refine Kd.C_drew ?_))); (case side2 => exact HC0.out); rintro e w' ⟨rfl, ⟨nd, rfl⟩⟩; refine ⟨_, rfl, ?_⟩))
    go_loopg [5, 6] k (fun kq v5 v6 w' => ∃ (x5_1 : List (S27)) (x6_1 : Int), v6 = .int .i64 x6_1 ∧ Aside0 (retconref23_Kept.l0 kq l0 a1 x5_1 x6_1 = some r) ∧ Aside0 (kq ≤ k) ∧ Aside0 (Kd.R k27 27 w' w.heap.size (fun _ => True) v5 x5_1) ∧ Aside0 (Below w.heap.size w w'))
    case atStart => exact ⟨(([] : List (S27))), (0), (by first | rfl | (simp; done) | (simp [*]; done)), H', ⟨Nat.le_refl _⟩, ⟨by first | exact Kd.R_nil _ _ _ _ _ | exact Kd.N_nil _ _ _ _ _ | exact Kd.V_nil _ _ _ _ _ | exact Kd.Q_nil _ _ _ _ _ | exact Kd.S_nil _ _ _ _ _⟩, ⟨by repeat (first | (with_reducible first | exact HB.out | apply below_alloc | apply pw_below_drewN | apply below_drew1) | exact HB.out)⟩⟩
    case round =>
      clear H'
      try clear c1
      try clear c2
      try clear p2
      try clear c4
      try clear c4b0
      try clear c4b1
      obtain ⟨x5_1, x6_1, rfl, HA, HK1, HO_5, HB⟩ := hrel
      cases gk with
      | zero => exact absurd HA.out (by simp [retconref23_Kept.l0])
      | succ k1 =>
        have H := HA.out
        clear HA
        simp only [retconref23_Kept.l0] at H
        by_cases c5 : x6_1 < (l0.length : Int)
        · rw [if_pos c5] at H
          have c5b0 : decide (x6_1 < (l0.length : Int)) = true := decide_eq_true c5
          clear c5
          by_cases c6 : 0 ≤ x6_1
          · rw [if_pos c6] at H
            have c6b0 : decide (0 ≤ x6_1) = true := decide_eq_true c6
            clear c6
            by_cases c7 : ((rd_T27 l0 x6_1).f0) ≤ a1
            · rw [if_pos c7] at H
              have c7b0 : decide (((rd_T27 l0 x6_1).f0) ≤ a1) = true := decide_eq_true c7
              clear c7
              by_cases c8 : x5_1.length < 3518437208883
              · rw [if_pos c8] at H
                have LMc8 := Aside0.mk c8
                clear c8
                obtain ⟨y120, hy120⟩ : ∃ y_ : List (S27), y_ = (x5_1 ++ [(⟨(rd_T27 l0 x6_1).f0, (⟨(rd_T27 l0 x6_1).f1.f0, (rd_T27 l0 x6_1).f1.f1, (rd_T27 l0 x6_1).f1.f2, (rd_T27 l0 x6_1).f1.f3, (rd_T27 l0 x6_1).f1.f4, (rd_T27 l0 x6_1).f1.f5, (rd_T27 l0 x6_1).f1.f6, (rd_T27 l0 x6_1).f1.f7, (rd_T27 l0 x6_1).f1.f8, (rd_T27 l0 x6_1).f1.f9, (rd_T27 l0 x6_1).f1.f10, (rd_T27 l0 x6_1).f1.f11, (rd_T27 l0 x6_1).f1.f12, (rd_T27 l0 x6_1).f1.f13, (rd_T27 l0 x6_1).f1.f14, (rd_T27 l0 x6_1).f1.f15, (rd_T27 l0 x6_1).f1.f16, (rd_T27 l0 x6_1).f1.f17, (rd_T27 l0 x6_1).f1.f18, (rd_T27 l0 x6_1).f1.f19, (rd_T27 l0 x6_1).f1.f20, (rd_T27 l0 x6_1).f1.f21, (rd_T27 l0 x6_1).f1.f22, (rd_T27 l0 x6_1).f1.f23, (rd_T27 l0 x6_1).f1.f24, (rd_T27 l0 x6_1).f1.f25, (rd_T27 l0 x6_1).f1.f26, (rd_T27 l0 x6_1).f1.f27, (rd_T27 l0 x6_1).f1.f28, (rd_T27 l0 x6_1).f1.f29, (rd_T27 l0 x6_1).f1.f30, (rd_T27 l0 x6_1).f1.f31⟩ : S25)⟩ : S27)]) := ⟨_, rfl⟩
                replace H : (retconref23_Kept.l0 k1 l0 a1 y120 (wrap64 (x6_1 + 1))) = some r := by first | (rw [hy120]; with_reducible exact H) | (have H2_ := (Option.bind_some _ _).symm.trans H; rw [hy120]; with_reducible exact H2_) | (have H2_ := (Option.bind_some _ _).symm.trans H; with_reducible exact H2_) | with_reducible exact H | (rw [hy120]; exact H) | exact H
                have Ny120 := Aside0.mk hy120
                clear hy120
                have H' := Aside0.mk H
                clear H
                have p118 : 0 ≤ (x6_1 : Int) := of_decide_eq_true (by first | (with_reducible assumption) | assumption)
                have q118 : x6_1 < (l0.length : Int) := of_decide_eq_true (by first | (with_reducible assumption) | assumption)
                obtain ⟨ad118, e118, hx118_0, hx118_1, hx118_2, hx118_3, hx118_4, hx118_5, hx118_6, hx118_7, hx118_8, hx118_9, hx118_10, hx118_11, hx118_12, hx118_13, hx118_14, hx118_15, hx118_16, hx118_17, hx118_18, hx118_19, hx118_20, hx118_21, hx118_22, hx118_23, hx118_24, hx118_25, hx118_26, hx118_27, hx118_28, hx118_29, hx118_30, hx118_31, hx118_32⟩ := at_T27 HR0.out x6_1 p118 q118
                cases e118
                replace hx118_0 := (HB.out.cell (World.block_lt_of_cell? w _ hx118_0)).trans hx118_0
                replace hx118_1 := (HB.out.cell (World.block_lt_of_cell? w _ hx118_1)).trans hx118_1
                replace hx118_2 := (HB.out.cell (World.block_lt_of_cell? w _ hx118_2)).trans hx118_2
                replace hx118_3 := (HB.out.cell (World.block_lt_of_cell? w _ hx118_3)).trans hx118_3
                replace hx118_4 := (HB.out.cell (World.block_lt_of_cell? w _ hx118_4)).trans hx118_4
                replace hx118_5 := (HB.out.cell (World.block_lt_of_cell? w _ hx118_5)).trans hx118_5
                replace hx118_6 := (HB.out.cell (World.block_lt_of_cell? w _ hx118_6)).trans hx118_6
                replace hx118_7 := (HB.out.cell (World.block_lt_of_cell? w _ hx118_7)).trans hx118_7
                replace hx118_8 := (HB.out.cell (World.block_lt_of_cell? w _ hx118_8)).trans hx118_8
                replace hx118_9 := (HB.out.cell (World.block_lt_of_cell? w _ hx118_9)).trans hx118_9
                replace hx118_10 := (HB.out.cell (World.block_lt_of_cell? w _ hx118_10)).trans hx118_10
                replace hx118_11 := (HB.out.cell (World.block_lt_of_cell? w _ hx118_11)).trans hx118_11
                replace hx118_12 := (HB.out.cell (World.block_lt_of_cell? w _ hx118_12)).trans hx118_12
                replace hx118_13 := (HB.out.cell (World.block_lt_of_cell? w _ hx118_13)).trans hx118_13
                replace hx118_14 := (HB.out.cell (World.block_lt_of_cell? w _ hx118_14)).trans hx118_14
                replace hx118_15 := (HB.out.cell (World.block_lt_of_cell? w _ hx118_15)).trans hx118_15
                replace hx118_16 := (HB.out.cell (World.block_lt_of_cell? w _ hx118_16)).trans hx118_16
                replace hx118_17 := (HB.out.cell (World.block_lt_of_cell? w _ hx118_17)).trans hx118_17
                replace hx118_18 := (HB.out.cell (World.block_lt_of_cell? w _ hx118_18)).trans hx118_18
                replace hx118_19 := (HB.out.cell (World.block_lt_of_cell? w _ hx118_19)).trans hx118_19
                replace hx118_20 := (HB.out.cell (World.block_lt_of_cell? w _ hx118_20)).trans hx118_20
                replace hx118_21 := (HB.out.cell (World.block_lt_of_cell? w _ hx118_21)).trans hx118_21
                replace hx118_22 := (HB.out.cell (World.block_lt_of_cell? w _ hx118_22)).trans hx118_22
                replace hx118_23 := (HB.out.cell (World.block_lt_of_cell? w _ hx118_23)).trans hx118_23
                replace hx118_24 := (HB.out.cell (World.block_lt_of_cell? w _ hx118_24)).trans hx118_24
                replace hx118_25 := (HB.out.cell (World.block_lt_of_cell? w _ hx118_25)).trans hx118_25
                replace hx118_26 := (HB.out.cell (World.block_lt_of_cell? w _ hx118_26)).trans hx118_26
                replace hx118_27 := (HB.out.cell (World.block_lt_of_cell? w _ hx118_27)).trans hx118_27
                replace hx118_28 := (HB.out.cell (World.block_lt_of_cell? w _ hx118_28)).trans hx118_28
                replace hx118_29 := (HB.out.cell (World.block_lt_of_cell? w _ hx118_29)).trans hx118_29
                replace hx118_30 := (HB.out.cell (World.block_lt_of_cell? w _ hx118_30)).trans hx118_30
                replace hx118_31 := (HB.out.cell (World.block_lt_of_cell? w _ hx118_31)).trans hx118_31
                replace hx118_32 := (HB.out.cell (World.block_lt_of_cell? w _ hx118_32)).trans hx118_32
                (first | (obtain ⟨hr118, hrn118⟩ := row27_mk hx118_0 hx118_1 hx118_2 hx118_3 hx118_4 hx118_5 hx118_6 hx118_7 hx118_8 hx118_9 hx118_10 hx118_11 hx118_12 hx118_13 hx118_14 hx118_15 hx118_16 hx118_17 hx118_18 hx118_19 hx118_20 hx118_21 hx118_22 hx118_23 hx118_24 hx118_25 hx118_26 hx118_27 hx118_28 hx118_29 hx118_30 hx118_31 hx118_32; clear hx118_1 hx118_2 hx118_3 hx118_4 hx118_5 hx118_6 hx118_7 hx118_8 hx118_9 hx118_10 hx118_11 hx118_12 hx118_13 hx118_14 hx118_15 hx118_16 hx118_17 hx118_18 hx118_19 hx118_20 hx118_21 hx118_22 hx118_23 hx118_24 hx118_25 hx118_26 hx118_27 hx118_28 hx118_29 hx118_30 hx118_31 hx118_32) | skip)
                replace p118 := eq_true p118
                replace q118 := eq_true q118
                have p119 : 0 ≤ (x6_1 : Int) := of_decide_eq_true (by first | (with_reducible assumption) | assumption)
                have q119 : x6_1 < (l0.length : Int) := of_decide_eq_true (by first | (with_reducible assumption) | assumption)
                obtain ⟨ad119, e119, hx119_0, hx119_1, hx119_2, hx119_3, hx119_4, hx119_5, hx119_6, hx119_7, hx119_8, hx119_9, hx119_10, hx119_11, hx119_12, hx119_13, hx119_14, hx119_15, hx119_16, hx119_17, hx119_18, hx119_19, hx119_20, hx119_21, hx119_22, hx119_23, hx119_24, hx119_25, hx119_26, hx119_27, hx119_28, hx119_29, hx119_30, hx119_31, hx119_32⟩ := at_T27 HR0.out x6_1 p119 q119
                obtain rfl : ad118 = ad119 := (by injection e119)
                replace hx119_0 := (HB.out.cell (World.block_lt_of_cell? w _ hx119_0)).trans hx119_0
                replace hx119_1 := (HB.out.cell (World.block_lt_of_cell? w _ hx119_1)).trans hx119_1
                replace hx119_2 := (HB.out.cell (World.block_lt_of_cell? w _ hx119_2)).trans hx119_2
                replace hx119_3 := (HB.out.cell (World.block_lt_of_cell? w _ hx119_3)).trans hx119_3
                replace hx119_4 := (HB.out.cell (World.block_lt_of_cell? w _ hx119_4)).trans hx119_4
                replace hx119_5 := (HB.out.cell (World.block_lt_of_cell? w _ hx119_5)).trans hx119_5
                replace hx119_6 := (HB.out.cell (World.block_lt_of_cell? w _ hx119_6)).trans hx119_6
                replace hx119_7 := (HB.out.cell (World.block_lt_of_cell? w _ hx119_7)).trans hx119_7
                replace hx119_8 := (HB.out.cell (World.block_lt_of_cell? w _ hx119_8)).trans hx119_8
                replace hx119_9 := (HB.out.cell (World.block_lt_of_cell? w _ hx119_9)).trans hx119_9
                replace hx119_10 := (HB.out.cell (World.block_lt_of_cell? w _ hx119_10)).trans hx119_10
                replace hx119_11 := (HB.out.cell (World.block_lt_of_cell? w _ hx119_11)).trans hx119_11
                replace hx119_12 := (HB.out.cell (World.block_lt_of_cell? w _ hx119_12)).trans hx119_12
                replace hx119_13 := (HB.out.cell (World.block_lt_of_cell? w _ hx119_13)).trans hx119_13
                replace hx119_14 := (HB.out.cell (World.block_lt_of_cell? w _ hx119_14)).trans hx119_14
                replace hx119_15 := (HB.out.cell (World.block_lt_of_cell? w _ hx119_15)).trans hx119_15
                replace hx119_16 := (HB.out.cell (World.block_lt_of_cell? w _ hx119_16)).trans hx119_16
                replace hx119_17 := (HB.out.cell (World.block_lt_of_cell? w _ hx119_17)).trans hx119_17
                replace hx119_18 := (HB.out.cell (World.block_lt_of_cell? w _ hx119_18)).trans hx119_18
                replace hx119_19 := (HB.out.cell (World.block_lt_of_cell? w _ hx119_19)).trans hx119_19
                replace hx119_20 := (HB.out.cell (World.block_lt_of_cell? w _ hx119_20)).trans hx119_20
                replace hx119_21 := (HB.out.cell (World.block_lt_of_cell? w _ hx119_21)).trans hx119_21
                replace hx119_22 := (HB.out.cell (World.block_lt_of_cell? w _ hx119_22)).trans hx119_22
                replace hx119_23 := (HB.out.cell (World.block_lt_of_cell? w _ hx119_23)).trans hx119_23
                replace hx119_24 := (HB.out.cell (World.block_lt_of_cell? w _ hx119_24)).trans hx119_24
                replace hx119_25 := (HB.out.cell (World.block_lt_of_cell? w _ hx119_25)).trans hx119_25
                replace hx119_26 := (HB.out.cell (World.block_lt_of_cell? w _ hx119_26)).trans hx119_26
                replace hx119_27 := (HB.out.cell (World.block_lt_of_cell? w _ hx119_27)).trans hx119_27
                replace hx119_28 := (HB.out.cell (World.block_lt_of_cell? w _ hx119_28)).trans hx119_28
                replace hx119_29 := (HB.out.cell (World.block_lt_of_cell? w _ hx119_29)).trans hx119_29
                replace hx119_30 := (HB.out.cell (World.block_lt_of_cell? w _ hx119_30)).trans hx119_30
                replace hx119_31 := (HB.out.cell (World.block_lt_of_cell? w _ hx119_31)).trans hx119_31
                replace hx119_32 := (HB.out.cell (World.block_lt_of_cell? w _ hx119_32)).trans hx119_32
                (first | (obtain ⟨hr119, hrn119⟩ := row27_mk hx119_0 hx119_1 hx119_2 hx119_3 hx119_4 hx119_5 hx119_6 hx119_7 hx119_8 hx119_9 hx119_10 hx119_11 hx119_12 hx119_13 hx119_14 hx119_15 hx119_16 hx119_17 hx119_18 hx119_19 hx119_20 hx119_21 hx119_22 hx119_23 hx119_24 hx119_25 hx119_26 hx119_27 hx119_28 hx119_29 hx119_30 hx119_31 hx119_32; clear hx119_1 hx119_2 hx119_3 hx119_4 hx119_5 hx119_6 hx119_7 hx119_8 hx119_9 hx119_10 hx119_11 hx119_12 hx119_13 hx119_14 hx119_15 hx119_16 hx119_17 hx119_18 hx119_19 hx119_20 hx119_21 hx119_22 hx119_23 hx119_24 hx119_25 hx119_26 hx119_27 hx119_28 hx119_29 hx119_30 hx119_31 hx119_32) | skip)
                replace p119 := eq_true p119
                replace q119 := eq_true q119
                go_wp2_with (first | ((with_reducible refine gate_builtin (b := .append) (xs := #[.tmp 23, .tmp 28]) rfl ?_); at_builtin; refine Kd.R_append k27 (w0 := w) w.heap.size rfl (.tmp 23) (.tmp 28) 22 27 (.agg ((.int .i64 0) :: (.int .u8 0) :: (.int .u8 0) :: (.int .u8 0) :: (.int .u8 0) :: (.int .u8 0) :: (.int .u8 0) :: (.int .u8 0) :: (.int .u8 0) :: (.int .u8 0) :: (.int .u8 0) :: (.int .u8 0) :: (.int .u8 0) :: (.int .u8 0) :: (.int .u8 0) :: (.int .u8 0) :: (.int .u8 0) :: (.int .u8 0) :: (.int .u8 0) :: (.int .u8 0) :: (.int .u8 0) :: (.int .u8 0) :: (.int .u8 0) :: (.int .u8 0) :: (.int .u8 0) :: (.int .u8 0) :: (.int .u8 0) :: (.int .u8 0) :: (.int .u8 0) :: (.int .u8 0) :: (.int .u8 0) :: (.int .u8 0) :: (.int .u8 0) :: []).toArray) 40 rfl Try.underlying22 info27 rfl (by decide) (by omega) u5 x5_1 (⟨(rd_T27 l0 x6_1).f0, (⟨(rd_T27 l0 x6_1).f1.f0, (rd_T27 l0 x6_1).f1.f1, (rd_T27 l0 x6_1).f1.f2, (rd_T27 l0 x6_1).f1.f3, (rd_T27 l0 x6_1).f1.f4, (rd_T27 l0 x6_1).f1.f5, (rd_T27 l0 x6_1).f1.f6, (rd_T27 l0 x6_1).f1.f7, (rd_T27 l0 x6_1).f1.f8, (rd_T27 l0 x6_1).f1.f9, (rd_T27 l0 x6_1).f1.f10, (rd_T27 l0 x6_1).f1.f11, (rd_T27 l0 x6_1).f1.f12, (rd_T27 l0 x6_1).f1.f13, (rd_T27 l0 x6_1).f1.f14, (rd_T27 l0 x6_1).f1.f15, (rd_T27 l0 x6_1).f1.f16, (rd_T27 l0 x6_1).f1.f17, (rd_T27 l0 x6_1).f1.f18, (rd_T27 l0 x6_1).f1.f19, (rd_T27 l0 x6_1).f1.f20, (rd_T27 l0 x6_1).f1.f21, (rd_T27 l0 x6_1).f1.f22, (rd_T27 l0 x6_1).f1.f23, (rd_T27 l0 x6_1).f1.f24, (rd_T27 l0 x6_1).f1.f25, (rd_T27 l0 x6_1).f1.f26, (rd_T27 l0 x6_1).f1.f27, (rd_T27 l0 x6_1).f1.f28, (rd_T27 l0 x6_1).f1.f29, (rd_T27 l0 x6_1).f1.f30, (rd_T27 l0 x6_1).f1.f31⟩ : S25)⟩ : S27) (.int .i64 ((rd_T27 l0 x6_1).f0) :: .int .u8 ((rd_T27 l0 x6_1).f1.f0) :: .int .u8 ((rd_T27 l0 x6_1).f1.f1) :: .int .u8 ((rd_T27 l0 x6_1).f1.f2) :: .int .u8 ((rd_T27 l0 x6_1).f1.f3) :: .int .u8 ((rd_T27 l0 x6_1).f1.f4) :: .int .u8 ((rd_T27 l0 x6_1).f1.f5) :: .int .u8 ((rd_T27 l0 x6_1).f1.f6) :: .int .u8 ((rd_T27 l0 x6_1).f1.f7) :: .int .u8 ((rd_T27 l0 x6_1).f1.f8) :: .int .u8 ((rd_T27 l0 x6_1).f1.f9) :: .int .u8 ((rd_T27 l0 x6_1).f1.f10) :: .int .u8 ((rd_T27 l0 x6_1).f1.f11) :: .int .u8 ((rd_T27 l0 x6_1).f1.f12) :: .int .u8 ((rd_T27 l0 x6_1).f1.f13) :: .int .u8 ((rd_T27 l0 x6_1).f1.f14) :: .int .u8 ((rd_T27 l0 x6_1).f1.f15) :: .int .u8 ((rd_T27 l0 x6_1).f1.f16) :: .int .u8 ((rd_T27 l0 x6_1).f1.f17) :: .int .u8 ((rd_T27 l0 x6_1).f1.f18) :: .int .u8 ((rd_T27 l0 x6_1).f1.f19) :: .int .u8 ((rd_T27 l0 x6_1).f1.f20) :: .int .u8 ((rd_T27 l0 x6_1).f1.f21) :: .int .u8 ((rd_T27 l0 x6_1).f1.f22) :: .int .u8 ((rd_T27 l0 x6_1).f1.f23) :: .int .u8 ((rd_T27 l0 x6_1).f1.f24) :: .int .u8 ((rd_T27 l0 x6_1).f1.f25) :: .int .u8 ((rd_T27 l0 x6_1).f1.f26) :: .int .u8 ((rd_T27 l0 x6_1).f1.f27) :: .int .u8 ((rd_T27 l0 x6_1).f1.f28) :: .int .u8 ((rd_T27 l0 x6_1).f1.f29) :: .int .u8 ((rd_T27 l0 x6_1).f1.f30) :: .int .u8 ((rd_T27 l0 x6_1).f1.f31) :: []) (fun _ => True) (fun _ => False) rfl rfl ?aP (fun _ hk => hk.elim) ?aF ?aO ?aB ?aS ?aL ?_; (case aP => exact k27_mkM _ _ _ (⟨(rd_T27 l0 x6_1).f0, (⟨(rd_T27 l0 x6_1).f1.f0, (rd_T27 l0 x6_1).f1.f1, (rd_T27 l0 x6_1).f1.f2, (rd_T27 l0 x6_1).f1.f3, (rd_T27 l0 x6_1).f1.f4, (rd_T27 l0 x6_1).f1.f5, (rd_T27 l0 x6_1).f1.f6, (rd_T27 l0 x6_1).f1.f7, (rd_T27 l0 x6_1).f1.f8, (rd_T27 l0 x6_1).f1.f9, (rd_T27 l0 x6_1).f1.f10, (rd_T27 l0 x6_1).f1.f11, (rd_T27 l0 x6_1).f1.f12, (rd_T27 l0 x6_1).f1.f13, (rd_T27 l0 x6_1).f1.f14, (rd_T27 l0 x6_1).f1.f15, (rd_T27 l0 x6_1).f1.f16, (rd_T27 l0 x6_1).f1.f17, (rd_T27 l0 x6_1).f1.f18, (rd_T27 l0 x6_1).f1.f19, (rd_T27 l0 x6_1).f1.f20, (rd_T27 l0 x6_1).f1.f21, (rd_T27 l0 x6_1).f1.f22, (rd_T27 l0 x6_1).f1.f23, (rd_T27 l0 x6_1).f1.f24, (rd_T27 l0 x6_1).f1.f25, (rd_T27 l0 x6_1).f1.f26, (rd_T27 l0 x6_1).f1.f27, (rd_T27 l0 x6_1).f1.f28, (rd_T27 l0 x6_1).f1.f29, (rd_T27 l0 x6_1).f1.f30, (rd_T27 l0 x6_1).f1.f31⟩ : S25)⟩ : S27)); (case aB => exact (by repeat (first | (with_reducible first | exact HB.out | apply below_alloc | apply pw_below_drewN | apply below_drew1) | exact HB.out))); (case aF => exact (fun _ _ => trivial)); (case aO => exact (by (with_reducible repeat (first | apply Kd.R_alloc | apply Kd.R_drewN | apply Kd.R_drew)); exact HO_5.out)); (case aS => exact (below_size (by repeat (first | (with_reducible first | exact HB.out | apply below_alloc | apply pw_below_drewN | apply below_drew1) | exact HB.out)))); (case aL => have := LMc8.out; omega); intro v121 w9 ho hb hg hat; rw [← Ny120.out] at ho; have n0_ := Aside0.mk (hb); have n1_ := Aside0.mk (ho); clear HB; clear HO_5; have HB := n0_; have HO122 := n1_; clear n0_ n1_; clear ho hb hg hat))
                go_roundg k1
                case measure => have := HK1.out; omega
                case rel => exact ⟨(y120), (wrap64 (x6_1 + 1)), (by first | rfl | (simp; done) | (simp [*]; done)), H', ⟨by have := HK1.out; omega⟩, ⟨by (with_reducible repeat (first | apply Kd.R_alloc | apply Kd.R_drewN | apply Kd.R_drew)); exact HO122.out⟩, ⟨by repeat (first | (with_reducible first | exact HB.out | apply below_alloc | apply pw_below_drewN | apply below_drew1) | exact HB.out)⟩⟩
              · rw [if_neg c8] at H
                exact absurd H (by simp)
            · rw [if_neg c7] at H
              have c7b0 : decide (((rd_T27 l0 x6_1).f0) ≤ a1) = false := decide_eq_false c7
              clear c7
              have H' := Aside0.mk H
              clear H
              have p118 : 0 ≤ (x6_1 : Int) := of_decide_eq_true (by first | (with_reducible assumption) | assumption)
              have q118 : x6_1 < (l0.length : Int) := of_decide_eq_true (by first | (with_reducible assumption) | assumption)
              obtain ⟨ad118, e118, hx118_0, hx118_1, hx118_2, hx118_3, hx118_4, hx118_5, hx118_6, hx118_7, hx118_8, hx118_9, hx118_10, hx118_11, hx118_12, hx118_13, hx118_14, hx118_15, hx118_16, hx118_17, hx118_18, hx118_19, hx118_20, hx118_21, hx118_22, hx118_23, hx118_24, hx118_25, hx118_26, hx118_27, hx118_28, hx118_29, hx118_30, hx118_31, hx118_32⟩ := at_T27 HR0.out x6_1 p118 q118
              cases e118
              replace hx118_0 := (HB.out.cell (World.block_lt_of_cell? w _ hx118_0)).trans hx118_0
              replace hx118_1 := (HB.out.cell (World.block_lt_of_cell? w _ hx118_1)).trans hx118_1
              replace hx118_2 := (HB.out.cell (World.block_lt_of_cell? w _ hx118_2)).trans hx118_2
              replace hx118_3 := (HB.out.cell (World.block_lt_of_cell? w _ hx118_3)).trans hx118_3
              replace hx118_4 := (HB.out.cell (World.block_lt_of_cell? w _ hx118_4)).trans hx118_4
              replace hx118_5 := (HB.out.cell (World.block_lt_of_cell? w _ hx118_5)).trans hx118_5
              replace hx118_6 := (HB.out.cell (World.block_lt_of_cell? w _ hx118_6)).trans hx118_6
              replace hx118_7 := (HB.out.cell (World.block_lt_of_cell? w _ hx118_7)).trans hx118_7
              replace hx118_8 := (HB.out.cell (World.block_lt_of_cell? w _ hx118_8)).trans hx118_8
              replace hx118_9 := (HB.out.cell (World.block_lt_of_cell? w _ hx118_9)).trans hx118_9
              replace hx118_10 := (HB.out.cell (World.block_lt_of_cell? w _ hx118_10)).trans hx118_10
              replace hx118_11 := (HB.out.cell (World.block_lt_of_cell? w _ hx118_11)).trans hx118_11
              replace hx118_12 := (HB.out.cell (World.block_lt_of_cell? w _ hx118_12)).trans hx118_12
              replace hx118_13 := (HB.out.cell (World.block_lt_of_cell? w _ hx118_13)).trans hx118_13
              replace hx118_14 := (HB.out.cell (World.block_lt_of_cell? w _ hx118_14)).trans hx118_14
              replace hx118_15 := (HB.out.cell (World.block_lt_of_cell? w _ hx118_15)).trans hx118_15
              replace hx118_16 := (HB.out.cell (World.block_lt_of_cell? w _ hx118_16)).trans hx118_16
              replace hx118_17 := (HB.out.cell (World.block_lt_of_cell? w _ hx118_17)).trans hx118_17
              replace hx118_18 := (HB.out.cell (World.block_lt_of_cell? w _ hx118_18)).trans hx118_18
              replace hx118_19 := (HB.out.cell (World.block_lt_of_cell? w _ hx118_19)).trans hx118_19
              replace hx118_20 := (HB.out.cell (World.block_lt_of_cell? w _ hx118_20)).trans hx118_20
              replace hx118_21 := (HB.out.cell (World.block_lt_of_cell? w _ hx118_21)).trans hx118_21
              replace hx118_22 := (HB.out.cell (World.block_lt_of_cell? w _ hx118_22)).trans hx118_22
              replace hx118_23 := (HB.out.cell (World.block_lt_of_cell? w _ hx118_23)).trans hx118_23
              replace hx118_24 := (HB.out.cell (World.block_lt_of_cell? w _ hx118_24)).trans hx118_24
              replace hx118_25 := (HB.out.cell (World.block_lt_of_cell? w _ hx118_25)).trans hx118_25
              replace hx118_26 := (HB.out.cell (World.block_lt_of_cell? w _ hx118_26)).trans hx118_26
              replace hx118_27 := (HB.out.cell (World.block_lt_of_cell? w _ hx118_27)).trans hx118_27
              replace hx118_28 := (HB.out.cell (World.block_lt_of_cell? w _ hx118_28)).trans hx118_28
              replace hx118_29 := (HB.out.cell (World.block_lt_of_cell? w _ hx118_29)).trans hx118_29
              replace hx118_30 := (HB.out.cell (World.block_lt_of_cell? w _ hx118_30)).trans hx118_30
              replace hx118_31 := (HB.out.cell (World.block_lt_of_cell? w _ hx118_31)).trans hx118_31
              replace hx118_32 := (HB.out.cell (World.block_lt_of_cell? w _ hx118_32)).trans hx118_32
              (first | (obtain ⟨hr118, hrn118⟩ := row27_mk hx118_0 hx118_1 hx118_2 hx118_3 hx118_4 hx118_5 hx118_6 hx118_7 hx118_8 hx118_9 hx118_10 hx118_11 hx118_12 hx118_13 hx118_14 hx118_15 hx118_16 hx118_17 hx118_18 hx118_19 hx118_20 hx118_21 hx118_22 hx118_23 hx118_24 hx118_25 hx118_26 hx118_27 hx118_28 hx118_29 hx118_30 hx118_31 hx118_32; clear hx118_1 hx118_2 hx118_3 hx118_4 hx118_5 hx118_6 hx118_7 hx118_8 hx118_9 hx118_10 hx118_11 hx118_12 hx118_13 hx118_14 hx118_15 hx118_16 hx118_17 hx118_18 hx118_19 hx118_20 hx118_21 hx118_22 hx118_23 hx118_24 hx118_25 hx118_26 hx118_27 hx118_28 hx118_29 hx118_30 hx118_31 hx118_32) | skip)
              replace p118 := eq_true p118
              replace q118 := eq_true q118
              go_wp2
              go_roundg k1
              case measure => have := HK1.out; omega
              case rel => exact ⟨(x5_1), (wrap64 (x6_1 + 1)), (by first | rfl | (simp; done) | (simp [*]; done)), H', ⟨by have := HK1.out; omega⟩, ⟨by (with_reducible repeat (first | apply Kd.R_alloc | apply Kd.R_drewN | apply Kd.R_drew)); exact HO_5.out⟩, ⟨by repeat (first | (with_reducible first | exact HB.out | apply below_alloc | apply pw_below_drewN | apply below_drew1) | exact HB.out)⟩⟩
          · rw [if_neg c6] at H
            exact absurd H (by simp)
        · rw [if_neg c5] at H
          have c5b0 : decide (x6_1 < (l0.length : Int)) = false := decide_eq_false c5
          clear c5
          obtain rfl := Option.some.inj H
          go_wp2
          go_ret
          exact ⟨_, by first | rfl | (simp [errW_none, errW_some] <;> rfl) | (simp [*, errW_none, errW_some] <;> rfl), by (with_reducible repeat (first | apply Kd.R_alloc | apply Kd.R_drewN | apply Kd.R_drew)); exact HO_5.out, by repeat (first | (with_reducible first | exact HB.out | apply below_alloc | apply pw_below_drewN | apply below_drew1) | exact HB.out)⟩
  · rw [if_neg c4] at H
    have c4b0 : (t117 == 0) = false := beq_eq_false_iff_ne.mpr c4
    have c4b1 : (t117 != 0) = true := bne_iff_ne.mpr c4
    obtain rfl := Option.some.inj H
    go_enter Try.func13, Try.ntmps13
    go_wp2_with (first | ((with_reducible refine gate_callee (f := 21) rfl ?_); refine goesL_ (some 8) rfl rfl Try.func21 (by kernel_rfl) rfl #[.slice A0 l0.length c0, .int .i64 500] rfl (by (try simp only [List.map_toArray, List.map_cons, List.map_nil]); first | done | rfl | (simp only [List.length_drop, List.length_take]; rfl)) ?_; (with_reducible refine (retconref23_May.calls k _ _ l0 500 t117 _ ?side1 ?side2 A3.out).mono ?_); (case side1 => repeat (first | exact HR0.out | (with_reducible refine Kd.C_alloc ?_ _) | (with_reducible refine Kd.C_drewN ?_ _) | (with_reducible refine Kd.C_drew ?_))); (case side2 => exact HC0.out); rintro e w' ⟨rfl, ⟨nd, rfl⟩⟩; refine ⟨_, rfl, ?_⟩))
    go_ret
    exact ⟨_, by first | rfl | (simp [errW_none, errW_some] <;> rfl) | (simp [*, errW_none, errW_some] <;> rfl), by first | exact Kd.R_nil _ _ _ _ _ | exact Kd.N_nil _ _ _ _ _ | exact Kd.V_nil _ _ _ _ _ | exact Kd.Q_nil _ _ _ _ _ | exact Kd.S_nil _ _ _ _ _, by repeat (first | (with_reducible first | exact HB.out | apply below_alloc | apply pw_below_drewN | apply below_drew1) | exact HB.out)⟩

end Go.Proofs.Ytgippbgcmmjnbaa.XB
