-- Printed by xprint.py (a program of this work, over the kit's print.py). Lean checks it.
import Derived.Test.YtobleaodacnpiaaXE0
import Derived.Test.YtobleaodacnpiaaXEgbase
import Derived.Test.YtobleaodacnpiaaXEgcheck
namespace Go.Proofs.Ytobleaodacnpiaa.XE
open Go.RowKit Go.Proofs.YtobleaodacnpiaaW.PrintWords Go.Proofs.YtobleaodacnpiaaW.PrintLast Go.Proofs.YtobleaodacnpiaaW.PrintMore
attribute [local go_sem] max2_int min2_int max_two min_two max_three min_three max_four min_four   -- for this text's walks alone
set_option linter.unusedVariables false
set_option linter.unusedSimpArgs false

/-! ### extent_list_cut: function 28 -/
mutual
def extent_list_cut.j0 : Nat → List (S42) → Int → Int → Int → List (S42) → Int → Int → Option ((List (S42)))
  | 0, _, _, _, _, _, _, _ => none
  | k + 1, x0, x1, x2, x3, x10, x107000, x107001 => (extent_end.f x107000 x107001).bind fun t110 => (if (wrap64 (x2 + x3)) < t110 then ((extent_end.f x107000 x107001).bind fun t111 => (if x10.length < 8796093022208 then (extent_list_cut.j1 k x0 x1 (x10 ++ [(⟨wrap64 (x2 + x3), wrap64 ((wrap64 (t111 - x2)) - x3)⟩ : S42)])) else (none))) else (extent_list_cut.j1 k x0 x1 x10))
def extent_list_cut.j1 : Nat → List (S42) → Int → List (S42) → Option ((List (S42)))
  | 0, _, _, _ => none
  | k + 1, x0, x1, x10 => (slices_Clone_38.f x0).bind fun t115 => ((slices_Delete.f t115 x1 (wrap64 (x1 + 1))).bind fun t118 => ((slices_Insert.f t118 x1 x10).bind fun t121 => (some t121)))
end
def extent_list_cut.f (k : Nat) (l0 : List (S42)) (a1 : Int) (a2 : Int) (a3 : Int) : Option ((List (S42))) := if 0 ≤ a1 then (if a1 < (l0.length : Int) then (if a2 > ((rd_T42 l0 a1).f0) then (if ([] : List (S42)).length < 8796093022208 then (extent_list_cut.j0 k l0 a1 a2 a3 (([] : List (S42)) ++ [(⟨(rd_T42 l0 a1).f0, wrap64 (a2 - ((rd_T42 l0 a1).f0))⟩ : S42)]) ((rd_T42 l0 a1).f0) ((rd_T42 l0 a1).f1)) else (none)) else (extent_list_cut.j0 k l0 a1 a2 a3 ([] : List (S42)) ((rd_T42 l0 a1).f0) ((rd_T42 l0 a1).f1))) else (none)) else (none)
theorem extent_list_cut.mono_l : ∀ k, (∀ y0 y1 y2 y3 y4 y5 y6, LeO (extent_list_cut.j0 k y0 y1 y2 y3 y4 y5 y6) (extent_list_cut.j0 (k + 1) y0 y1 y2 y3 y4 y5 y6)) ∧ (∀ y0 y1 y2, LeO (extent_list_cut.j1 k y0 y1 y2) (extent_list_cut.j1 (k + 1) y0 y1 y2))
  | 0 => ⟨fun _ _ _ _ _ _ _ r h => by simp [extent_list_cut.j0] at h, fun _ _ _ r h => by simp [extent_list_cut.j1] at h⟩
  | k + 1 => by
    obtain ⟨ih0, ih1⟩ := extent_list_cut.mono_l k
    refine ⟨?_, ?_⟩
    · intro y0 y1 y2 y3 y4 y5 y6
      unfold extent_list_cut.j0
      repeat' first
      | (with_reducible exact ih0 _ _ _ _ _ _ _)
      | (with_reducible exact ih1 _ _ _)
      | (with_reducible exact LeO.refl _)
      | (with_reducible exact LeO.none _)
      | (with_reducible refine LeO.ite ?_ ?_)
      | (with_reducible refine LeO.bind ?_ (fun _ => ?_))
      | exact ih0 _ _ _ _ _ _ _
      | exact ih1 _ _ _
      | exact LeO.none _
      | refine LeO.ite ?_ ?_
      | refine LeO.bind ?_ (fun _ => ?_)
    · intro y0 y1 y2
      unfold extent_list_cut.j1
      repeat' first
      | (with_reducible exact ih0 _ _ _ _ _ _ _)
      | (with_reducible exact ih1 _ _ _)
      | (with_reducible exact LeO.refl _)
      | (with_reducible exact LeO.none _)
      | (with_reducible refine LeO.ite ?_ ?_)
      | (with_reducible refine LeO.bind ?_ (fun _ => ?_))
      | exact ih0 _ _ _ _ _ _ _
      | exact ih1 _ _ _
      | exact LeO.none _
      | refine LeO.ite ?_ ?_
      | refine LeO.bind ?_ (fun _ => ?_)
theorem extent_list_cut.mono : ∀ a0 a1 a2 a3 k, LeO (extent_list_cut.f k a0 a1 a2 a3) (extent_list_cut.f (k + 1) a0 a1 a2 a3) := by
  intro a0 a1 a2 a3 k
  obtain ⟨ih0, ih1⟩ := extent_list_cut.mono_l k
  unfold extent_list_cut.f
  repeat' first
      | (with_reducible exact ih0 _ _ _ _ _ _ _)
      | (with_reducible exact ih1 _ _ _)
      | (with_reducible exact LeO.refl _)
      | (with_reducible exact LeO.none _)
      | (with_reducible refine LeO.ite ?_ ?_)
      | (with_reducible refine LeO.bind ?_ (fun _ => ?_))
      | exact ih0 _ _ _ _ _ _ _
      | exact ih1 _ _ _
      | exact LeO.none _
      | refine LeO.ite ?_ ?_
      | refine LeO.bind ?_ (fun _ => ?_)
set_option maxHeartbeats 8000000 in
set_option maxRecDepth 100000 in
theorem extent_list_cut.calls (k : Nat) (A0 : Option Addr) (c0 : Nat) (l0 : List (S42)) (a1 : Int) (a2 : Int) (a3 : Int) (r : List (S42)) (w : World) (hr0 : Kd.C k42 w A0 l0.length l0) (hc0 : l0.length ≤ c0) (h : extent_list_cut.f k l0 a1 a2 a3 = some r) :
    Calls Try.prog 28 #[.slice A0 l0.length c0, .int .i64 a1, .int .i64 a2, .int .i64 a3] w fun e w' => ∃ v0_ : Value, e = .returned (v0_) ∧ Kd.R k42 42 w' w.heap.size (fun _ => True) v0_ r ∧ Below w.heap.size w w' := by
  have hu42 := Try.underlying42
  have HR0 := Aside0.mk hr0
  have HC0 := Aside0.mk hc0
  clear hr0 hc0
  have HB := Aside0.mk (Below.refl w.heap.size w)
  have H : (if 0 ≤ a1 then (if a1 < (l0.length : Int) then (if a2 > ((rd_T42 l0 a1).f0) then (if ([] : List (S42)).length < 8796093022208 then (extent_list_cut.j0 k l0 a1 a2 a3 (([] : List (S42)) ++ [(⟨(rd_T42 l0 a1).f0, wrap64 (a2 - ((rd_T42 l0 a1).f0))⟩ : S42)]) ((rd_T42 l0 a1).f0) ((rd_T42 l0 a1).f1)) else (none)) else (extent_list_cut.j0 k l0 a1 a2 a3 ([] : List (S42)) ((rd_T42 l0 a1).f0) ((rd_T42 l0 a1).f1))) else (none)) else (none)) = some r := h
  clear h
  by_cases c5 : 0 ≤ a1
  · rw [if_pos c5] at H
    have c5b0 : decide (0 ≤ a1) = true := decide_eq_true c5
    clear c5
    by_cases c6 : a1 < (l0.length : Int)
    · rw [if_pos c6] at H
      have c6b0 : decide (a1 < (l0.length : Int)) = true := decide_eq_true c6
      clear c6
      have HC7 := Aside0.mk H
      clear H
      have p105 : 0 ≤ (a1 : Int) := of_decide_eq_true (by first | (with_reducible assumption) | assumption)
      have q105 : a1 < (l0.length : Int) := of_decide_eq_true (by first | (with_reducible assumption) | assumption)
      obtain ⟨ad105, e105, hx105_0, hx105_1⟩ := at_T42 HR0.out a1 p105 q105
      cases e105
      replace p105 := eq_true p105
      replace q105 := eq_true q105
      go_enter Try.func28, Try.ntmps28
      go_upto_if 19 with (first | ((with_reducible refine gate_dst (N := 9) rfl ?_); refine box_event ?hg (N := 9) ?hd (cs := #[.int .i64 0, .int .i64 0]) (t := 42) ?hr ?_; (case hd => rfl); (case hg => rfl); (case hr => first | (go_simp; done) | (go_simp; rfl)); intro gb106 hg w8 hbox hb; have n0_ := Aside0.mk (below_step (by repeat (first | (with_reducible first | exact HB.out | apply below_alloc | apply pw_below_drewN | apply below_drew1) | exact HB.out)) hb); have n1_ := Aside0.mk (hbox); have n2_ := Aside0.mk ((by rw [hg]; exact (below_size (by repeat (first | (with_reducible first | exact HB.out | apply below_alloc | apply pw_below_drewN | apply below_drew1) | exact HB.out))) : w.heap.size ≤ gb106)); have n3_ := Aside0.mk ((by rw [hg]; exact (below_size (by repeat (first | (with_reducible first | exact HB.out | apply below_alloc | apply pw_below_drewN | apply below_drew1) | exact HB.out))) : w.heap.size ≤ gb106)); clear HB; have HB := n0_; have BK106 := n1_; have GW106 := n2_; have GE106 := n3_; clear n0_ n1_ n2_ n3_; clear hb hbox hg; have hcz9_0 : w8.cell? ⟨gb106, 0, none⟩ = some (.int .i64 0) := (blk_cell BK106.out 0).trans rfl; have hcz9_1 : w8.cell? ⟨gb106, 1, none⟩ = some (.int .i64 0) := (blk_cell BK106.out 1).trans rfl; have hfz9_0 := blk_frozen BK106.out 0; have hfz9_1 := blk_frozen BK106.out 1))
      (try simp only [Act.put, List.setIfInBounds_toArray, List.set_cons_zero, List.set_cons_succ])
      go_cut [10] (fun v10 wc => ∃ (kq : Nat) (x10_6 : List (S42)), Aside0 (extent_list_cut.j0 kq l0 a1 a2 a3 x10_6 ((rd_T42 l0 a1).f0) ((rd_T42 l0 a1).f1) = some r) ∧ Aside0 (kq ≤ k) ∧ Aside0 (Kd.R k42 42 wc w.heap.size (fun k_ => k_ ≠ gb106) v10 x10_6) ∧ Aside0 (wc.heap[gb106]? = some (.cells #[.int .i64 ((rd_T42 l0 a1).f0), .int .i64 ((rd_T42 l0 a1).f1)] 42 (0, 0))) ∧ Aside0 (Below w.heap.size w wc))
      case first =>
        have H := HC7.out
        clear HC7
        by_cases c10 : a2 > ((rd_T42 l0 a1).f0)
        · rw [if_pos c10] at H
          have c10b0 : decide (((rd_T42 l0 a1).f0) < a2) = true := decide_eq_true c10
          clear c10
          (first | rw [c10b0] | (simp only [i64_w, i32_w]; rw [c10b0]) | skip)
          by_cases c11 : ([] : List (S42)).length < 8796093022208
          · rw [if_pos c11] at H
            have LMc11 := Aside0.mk c11
            clear c11
            obtain ⟨y107, hy107⟩ : ∃ y_ : List (S42), y_ = (([] : List (S42)) ++ [(⟨(rd_T42 l0 a1).f0, wrap64 (a2 - ((rd_T42 l0 a1).f0))⟩ : S42)]) := ⟨_, rfl⟩
            replace H : (extent_list_cut.j0 k l0 a1 a2 a3 y107 ((rd_T42 l0 a1).f0) ((rd_T42 l0 a1).f1)) = some r := by first | (rw [hy107]; with_reducible exact H) | (have H2_ := (Option.bind_some _ _).symm.trans H; rw [hy107]; with_reducible exact H2_) | (have H2_ := (Option.bind_some _ _).symm.trans H; with_reducible exact H2_) | with_reducible exact H | (rw [hy107]; exact H) | exact H
            have Ny107 := Aside0.mk hy107
            clear hy107
            have H' := Aside0.mk H
            clear H
            have hcz12_0 : w8.cell? ⟨gb106, 0, none⟩ = some (.int .i64 0) := (blk_cell BK106.out 0).trans rfl
            have hcz12_1 : w8.cell? ⟨gb106, 1, none⟩ = some (.int .i64 0) := (blk_cell BK106.out 1).trans rfl
            have hfz12_0 := blk_frozen BK106.out 0
            have hfz12_1 := blk_frozen BK106.out 1
            go_wp2_with (first | ((with_reducible refine gate_builtin (b := .append) (xs := #[.tmp 20, .tmp 28]) rfl ?_); at_builtin; refine Kd.R_append k42 (w0 := w) w.heap.size rfl (.tmp 20) (.tmp 28) 44 42 (.agg #[(.int .i64 0), (.int .i64 0)]) 16 rfl Try.underlying44 info42 rfl (by decide) (by omega) (.slice none 0 0) ([] : List (S42)) (⟨(rd_T42 l0 a1).f0, wrap64 (a2 - ((rd_T42 l0 a1).f0))⟩ : S42) [.int .i64 ((rd_T42 l0 a1).f0), .int .i64 (wrap64 (a2 - ((rd_T42 l0 a1).f0)))] (fun k_ => k_ ≠ gb106) (fun _ => False) rfl (by first | (go_simp; done) | (go_simp; rfl)) ?aP (fun _ hk => hk.elim) ?aF ?aO ?aB ?aS ?aL ?_; (case aP => exact k42_mkM _ _ _ (⟨(rd_T42 l0 a1).f0, wrap64 (a2 - ((rd_T42 l0 a1).f0))⟩ : S42)); (case aB => exact (by repeat (first | (with_reducible first | exact HB.out | apply below_alloc | apply pw_below_drewN | apply below_drew1 | refine below_set ?_ GE106.out) | exact HB.out))); (case aF => exact (fun k_ hk => Kd.freshB (g := gb106) (o := .cells #[.int .i64 ((rd_T42 l0 a1).f0), .int .i64 ((rd_T42 l0 a1).f1)] 42 (0, 0)) (by (with_reducible repeat (first | refine blk_drewN ?_ _ | refine blk_drew ?_ | refine blk_alloc ?_ _)); refine blk_put (cs := #[.int .i64 ((rd_T42 l0 a1).f0), .int .i64 0]) ?_ 1 _ rfl; (with_reducible repeat (first | refine blk_drewN ?_ _ | refine blk_drew ?_ | refine blk_alloc ?_ _)); refine blk_put (cs := #[.int .i64 0, .int .i64 0]) ?_ 0 _ rfl; (with_reducible repeat (first | refine blk_drewN ?_ _ | refine blk_drew ?_ | refine blk_alloc ?_ _)); exact BK106.out) k_ hk)); (case aO => exact ((Kd.R_nil _ _ _ _ (fun k_ => k_ ≠ gb106)))); (case aS => exact (below_size (by repeat (first | (with_reducible first | exact HB.out | apply below_alloc | apply pw_below_drewN | apply below_drew1 | refine below_set ?_ GE106.out) | exact HB.out)))); (case aL => have := LMc11.out; omega); intro v108 w13 ho hb hg hat; rw [← Ny107.out] at ho; have n0_ := Aside0.mk (blk_grown (g := gb106) (o := .cells #[.int .i64 ((rd_T42 l0 a1).f0), .int .i64 ((rd_T42 l0 a1).f1)] 42 (0, 0)) (by (with_reducible repeat (first | refine blk_drewN ?_ _ | refine blk_drew ?_ | refine blk_alloc ?_ _)); refine blk_put (cs := #[.int .i64 ((rd_T42 l0 a1).f0), .int .i64 0]) ?_ 1 _ rfl; (with_reducible repeat (first | refine blk_drewN ?_ _ | refine blk_drew ?_ | refine blk_alloc ?_ _)); refine blk_put (cs := #[.int .i64 0, .int .i64 0]) ?_ 0 _ rfl; (with_reducible repeat (first | refine blk_drewN ?_ _ | refine blk_drew ?_ | refine blk_alloc ?_ _)); exact BK106.out) hg (by simp [Value.ownBlock])); have n1_ := Aside0.mk (hb); have n2_ := Aside0.mk (ho); clear BK106; clear HB; have BK106 := n0_; have HB := n1_; have HO109 := n2_; clear n0_ n1_ n2_; clear ho hb hg hat))
            go_meet
            case rel => exact ⟨_, (y107), H', ⟨by first | omega | exact Nat.le_refl _⟩, ⟨by (with_reducible repeat (first | apply Kd.R_alloc | apply Kd.R_drewN | apply Kd.R_drew)); exact HO109.out⟩, ⟨by (with_reducible repeat (first | refine blk_drewN ?_ _ | refine blk_drew ?_ | refine blk_alloc ?_ _)); exact BK106.out⟩, ⟨by repeat (first | (with_reducible first | exact HB.out | apply below_alloc | apply pw_below_drewN | apply below_drew1 | refine below_set ?_ GE106.out) | exact HB.out)⟩⟩
          · rw [if_neg c11] at H
            exact absurd H (by simp)
        · rw [if_neg c10] at H
          have c10b0 : decide (((rd_T42 l0 a1).f0) < a2) = false := decide_eq_false c10
          clear c10
          (first | rw [c10b0] | (simp only [i64_w, i32_w]; rw [c10b0]) | skip)
          have H' := Aside0.mk H
          clear H
          go_wp2
          go_meet
          case rel => exact ⟨_, (([] : List (S42))), H', ⟨by first | omega | exact Nat.le_refl _⟩, ⟨by first | exact Kd.R_nil _ _ _ _ _ | exact Kd.N_nil _ _ _ _ _ | exact Kd.V_nil _ _ _ _ _ | exact Kd.Q_nil _ _ _ _ _ | exact Kd.S_nil _ _ _ _ _⟩, ⟨by (with_reducible repeat (first | refine blk_drewN ?_ _ | refine blk_drew ?_ | refine blk_alloc ?_ _)); refine blk_put (cs := #[.int .i64 ((rd_T42 l0 a1).f0), .int .i64 0]) ?_ 1 _ rfl; (with_reducible repeat (first | refine blk_drewN ?_ _ | refine blk_drew ?_ | refine blk_alloc ?_ _)); refine blk_put (cs := #[.int .i64 0, .int .i64 0]) ?_ 0 _ rfl; (with_reducible repeat (first | refine blk_drewN ?_ _ | refine blk_drew ?_ | refine blk_alloc ?_ _)); exact BK106.out⟩, ⟨by repeat (first | (with_reducible first | exact HB.out | apply below_alloc | apply pw_below_drewN | apply below_drew1 | refine below_set ?_ GE106.out) | exact HB.out)⟩⟩
      case rest =>
        clear HC7
        try clear c1
        try clear p1
        try clear q1
        try clear hx1
        try clear c2
        try clear p2
        try clear c5
        try clear c5b0
        try clear c6
        try clear c6b0
        try clear p6
        try clear c10
        try clear c10b0
        try clear p10
        try clear q10
        try clear hx10
        try clear c11
        try clear hcz12_0
        try clear hcz12_1
        try clear hcz9_0
        try clear hcz9_1
        try clear hfz12_0
        try clear hfz12_1
        try clear hfz9_0
        try clear hfz9_1
        try clear hx105_0
        try clear hx105_1
        try clear p105
        try clear q105
        obtain ⟨kq, x10_6, HA, HJ6, HO_10, BK106, HB⟩ := hcut
        cases kq with
        | zero => exact absurd HA.out (by simp [extent_list_cut.j0])
        | succ kj6 =>
          have H := HA.out
          clear HA
          simp only [extent_list_cut.j0] at H
          replace H := Option.bind_eq_some_iff.mp H
          obtain ⟨t110, A140, H⟩ := H
          replace H : (if (wrap64 (a2 + a3)) < t110 then ((extent_end.f ((rd_T42 l0 a1).f0) ((rd_T42 l0 a1).f1)).bind fun t111 => (if x10_6.length < 8796093022208 then (extent_list_cut.j1 kj6 l0 a1 (x10_6 ++ [(⟨wrap64 (a2 + a3), wrap64 ((wrap64 (t111 - a2)) - a3)⟩ : S42)])) else (none))) else (extent_list_cut.j1 kj6 l0 a1 x10_6)) = some r := H
          have A14 := Aside0.mk A140
          clear A140
          have HC15 := Aside0.mk H
          clear H
          have hcz16_0 : wc.cell? ⟨gb106, 0, none⟩ = some (.int .i64 ((rd_T42 l0 a1).f0)) := (blk_cell BK106.out 0).trans rfl
          have hcz16_1 : wc.cell? ⟨gb106, 1, none⟩ = some (.int .i64 ((rd_T42 l0 a1).f1)) := (blk_cell BK106.out 1).trans rfl
          have hfz16_0 := blk_frozen BK106.out 0
          have hfz16_1 := blk_frozen BK106.out 1
          go_upto_if 35 with (first | ((with_reducible refine gate_callee (f := 33) rfl ?_); refine goesL_ (some 34) rfl rfl Try.func33 (by kernel_rfl) rfl #[.agg #[.int .i64 ((rd_T42 l0 a1).f0), .int .i64 ((rd_T42 l0 a1).f1)]] rfl (by (try simp only [List.map_toArray, List.map_cons, List.map_nil]); first | done | rfl | (simp only [List.length_drop, List.length_take]; rfl)) ?_; (with_reducible refine (extent_end.calls ((rd_T42 l0 a1).f0) ((rd_T42 l0 a1).f1) t110 _ A14.out).mono ?_); rintro e w17 ⟨rfl, hb⟩; refine ⟨_, rfl, ?_⟩; have n0_ := Aside0.mk (Kd.R_below (by (with_reducible repeat (first | apply Kd.R_alloc | apply Kd.R_drewN | apply Kd.R_drew)); exact HO_10.out) hb); have n1_ := Aside0.mk (blk_below (g := gb106) (o := .cells #[.int .i64 ((rd_T42 l0 a1).f0), .int .i64 ((rd_T42 l0 a1).f1)] 42 (0, 0)) (by (with_reducible repeat (first | refine blk_drewN ?_ _ | refine blk_drew ?_ | refine blk_alloc ?_ _)); exact BK106.out) hb); have n2_ := Aside0.mk (below_step (by repeat (first | (with_reducible first | exact HB.out | apply below_alloc | apply pw_below_drewN | apply below_drew1 | refine below_set ?_ GE106.out) | exact HB.out)) hb); clear HO_10; clear BK106; clear HB; have HO_10 := n0_; have BK106 := n1_; have HB := n2_; clear n0_ n1_ n2_; (try clear hb); (try clear hb2); (try clear hk); (try clear hi)))
          (try simp only [Act.put, List.setIfInBounds_toArray, List.set_cons_zero, List.set_cons_succ])
          go_cut [10] (fun v10 wc => ∃ (kq : Nat) (x10_14 : List (S42)), Aside0 (extent_list_cut.j1 kq l0 a1 x10_14 = some r) ∧ Aside0 (kq ≤ kj6) ∧ Aside0 (Kd.R k42 42 wc w.heap.size (fun k_ => k_ ≠ gb106) v10 x10_14) ∧ Aside0 (wc.heap[gb106]? = some (.cells #[.int .i64 ((rd_T42 l0 a1).f0), .int .i64 ((rd_T42 l0 a1).f1)] 42 (0, 0))) ∧ Aside0 (Below w.heap.size w wc))
          case first =>
            have H := HC15.out
            clear HC15
            by_cases c18 : (wrap64 (a2 + a3)) < t110
            · rw [if_pos c18] at H
              have c18b0 : decide ((wrap64 (a2 + a3)) < t110) = true := decide_eq_true c18
              clear c18
              (first | rw [c18b0] | (simp only [i64_w, i32_w]; rw [c18b0]) | skip)
              replace H := Option.bind_eq_some_iff.mp H
              obtain ⟨t111, A190, H⟩ := H
              replace H : (if x10_6.length < 8796093022208 then (extent_list_cut.j1 kj6 l0 a1 (x10_6 ++ [(⟨wrap64 (a2 + a3), wrap64 ((wrap64 (t111 - a2)) - a3)⟩ : S42)])) else (none)) = some r := H
              have A19 := Aside0.mk A190
              clear A190
              by_cases c20 : x10_6.length < 8796093022208
              · rw [if_pos c20] at H
                have LMc20 := Aside0.mk c20
                clear c20
                obtain ⟨y112, hy112⟩ : ∃ y_ : List (S42), y_ = (x10_6 ++ [(⟨wrap64 (a2 + a3), wrap64 ((wrap64 (t111 - a2)) - a3)⟩ : S42)]) := ⟨_, rfl⟩
                replace H : (extent_list_cut.j1 kj6 l0 a1 y112) = some r := by first | (rw [hy112]; with_reducible exact H) | (have H2_ := (Option.bind_some _ _).symm.trans H; rw [hy112]; with_reducible exact H2_) | (have H2_ := (Option.bind_some _ _).symm.trans H; with_reducible exact H2_) | with_reducible exact H | (rw [hy112]; exact H) | exact H
                have Ny112 := Aside0.mk hy112
                clear hy112
                have H' := Aside0.mk H
                clear H
                have hcz21_0 : w17.cell? ⟨gb106, 0, none⟩ = some (.int .i64 ((rd_T42 l0 a1).f0)) := (blk_cell BK106.out 0).trans rfl
                have hcz21_1 : w17.cell? ⟨gb106, 1, none⟩ = some (.int .i64 ((rd_T42 l0 a1).f1)) := (blk_cell BK106.out 1).trans rfl
                have hfz21_0 := blk_frozen BK106.out 0
                have hfz21_1 := blk_frozen BK106.out 1
                go_wp2_with (first | ((with_reducible refine gate_callee (f := 33) rfl ?_); refine goesL_ (some 41) rfl rfl Try.func33 (by kernel_rfl) rfl #[.agg #[.int .i64 ((rd_T42 l0 a1).f0), .int .i64 ((rd_T42 l0 a1).f1)]] rfl (by (try simp only [List.map_toArray, List.map_cons, List.map_nil]); first | done | rfl | (simp only [List.length_drop, List.length_take]; rfl)) ?_; (with_reducible refine (extent_end.calls ((rd_T42 l0 a1).f0) ((rd_T42 l0 a1).f1) t111 _ A19.out).mono ?_); rintro e w22 ⟨rfl, hb⟩; refine ⟨_, rfl, ?_⟩; have n0_ := Aside0.mk (Kd.R_below (by (with_reducible repeat (first | apply Kd.R_alloc | apply Kd.R_drewN | apply Kd.R_drew)); exact HO_10.out) hb); have n1_ := Aside0.mk (blk_below (g := gb106) (o := .cells #[.int .i64 ((rd_T42 l0 a1).f0), .int .i64 ((rd_T42 l0 a1).f1)] 42 (0, 0)) (by (with_reducible repeat (first | refine blk_drewN ?_ _ | refine blk_drew ?_ | refine blk_alloc ?_ _)); exact BK106.out) hb); have n2_ := Aside0.mk (below_step (by repeat (first | (with_reducible first | exact HB.out | apply below_alloc | apply pw_below_drewN | apply below_drew1 | refine below_set ?_ GE106.out) | exact HB.out)) hb); clear HO_10; clear BK106; clear HB; have HO_10 := n0_; have BK106 := n1_; have HB := n2_; clear n0_ n1_ n2_; (try clear hb); (try clear hb2); (try clear hk); (try clear hi)) | ((with_reducible refine gate_builtin (b := .append) (xs := #[.tmp 36, .tmp 47]) rfl ?_); at_builtin; refine Kd.R_append k42 (w0 := w) w.heap.size rfl (.tmp 36) (.tmp 47) 44 42 (.agg #[(.int .i64 0), (.int .i64 0)]) 16 rfl Try.underlying44 info42 rfl (by decide) (by omega) u10 x10_6 (⟨wrap64 (a2 + a3), wrap64 ((wrap64 (t111 - a2)) - a3)⟩ : S42) [.int .i64 (wrap64 (a2 + a3)), .int .i64 (wrap64 ((wrap64 (t111 - a2)) - a3))] (fun k_ => k_ ≠ gb106) (fun _ => False) rfl rfl ?aP (fun _ hk => hk.elim) ?aF ?aO ?aB ?aS ?aL ?_; (case aP => exact k42_mkM _ _ _ (⟨wrap64 (a2 + a3), wrap64 ((wrap64 (t111 - a2)) - a3)⟩ : S42)); (case aB => exact (by repeat (first | (with_reducible first | exact HB.out | apply below_alloc | apply pw_below_drewN | apply below_drew1 | refine below_set ?_ GE106.out) | exact HB.out))); (case aF => exact (fun k_ hk => Kd.freshB (g := gb106) (o := .cells #[.int .i64 ((rd_T42 l0 a1).f0), .int .i64 ((rd_T42 l0 a1).f1)] 42 (0, 0)) (by (with_reducible repeat (first | refine blk_drewN ?_ _ | refine blk_drew ?_ | refine blk_alloc ?_ _)); exact BK106.out) k_ hk)); (case aO => exact (by (with_reducible repeat (first | apply Kd.R_alloc | apply Kd.R_drewN | apply Kd.R_drew)); exact HO_10.out)); (case aS => exact (below_size (by repeat (first | (with_reducible first | exact HB.out | apply below_alloc | apply pw_below_drewN | apply below_drew1 | refine below_set ?_ GE106.out) | exact HB.out)))); (case aL => have := LMc20.out; omega); intro v113 w23 ho hb hg hat; rw [← Ny112.out] at ho; have n0_ := Aside0.mk (blk_grown (g := gb106) (o := .cells #[.int .i64 ((rd_T42 l0 a1).f0), .int .i64 ((rd_T42 l0 a1).f1)] 42 (0, 0)) (by (with_reducible repeat (first | refine blk_drewN ?_ _ | refine blk_drew ?_ | refine blk_alloc ?_ _)); exact BK106.out) hg (Kd.R_away HO_10.out (fun _ hk => hk))); have n1_ := Aside0.mk (hb); have n2_ := Aside0.mk (ho); clear BK106; clear HB; clear HO_10; have BK106 := n0_; have HB := n1_; have HO114 := n2_; clear n0_ n1_ n2_; clear ho hb hg hat))
                go_meet
                case rel => exact ⟨_, (y112), H', ⟨by have := HJ6.out; first | omega | exact Nat.le_refl _⟩, ⟨by (with_reducible repeat (first | apply Kd.R_alloc | apply Kd.R_drewN | apply Kd.R_drew)); exact HO114.out⟩, ⟨by (with_reducible repeat (first | refine blk_drewN ?_ _ | refine blk_drew ?_ | refine blk_alloc ?_ _)); exact BK106.out⟩, ⟨by repeat (first | (with_reducible first | exact HB.out | apply below_alloc | apply pw_below_drewN | apply below_drew1 | refine below_set ?_ GE106.out) | exact HB.out)⟩⟩
              · rw [if_neg c20] at H
                exact absurd H (by simp)
            · rw [if_neg c18] at H
              have c18b0 : decide ((wrap64 (a2 + a3)) < t110) = false := decide_eq_false c18
              clear c18
              (first | rw [c18b0] | (simp only [i64_w, i32_w]; rw [c18b0]) | skip)
              have H' := Aside0.mk H
              clear H
              go_wp2
              go_meet
              case rel => exact ⟨_, (x10_6), H', ⟨by have := HJ6.out; first | omega | exact Nat.le_refl _⟩, ⟨by (with_reducible repeat (first | apply Kd.R_alloc | apply Kd.R_drewN | apply Kd.R_drew)); exact HO_10.out⟩, ⟨by (with_reducible repeat (first | refine blk_drewN ?_ _ | refine blk_drew ?_ | refine blk_alloc ?_ _)); exact BK106.out⟩, ⟨by repeat (first | (with_reducible first | exact HB.out | apply below_alloc | apply pw_below_drewN | apply below_drew1 | refine below_set ?_ GE106.out) | exact HB.out)⟩⟩
          case rest =>
            clear HC15
            try clear c1
            try clear p1
            try clear q1
            try clear hx1
            try clear c2
            try clear p2
            try clear c3
            try clear c5
            try clear c5b0
            try clear c6
            try clear c6b0
            try clear p6
            try clear c10
            try clear c10b0
            try clear p10
            try clear q10
            try clear hx10
            try clear c11
            try clear c18
            try clear c18b0
            try clear c20
            try clear hcz12_0
            try clear hcz12_1
            try clear hcz16_0
            try clear hcz16_1
            try clear hcz21_0
            try clear hcz21_1
            try clear hcz9_0
            try clear hcz9_1
            try clear hfz12_0
            try clear hfz12_1
            try clear hfz16_0
            try clear hfz16_1
            try clear hfz21_0
            try clear hfz21_1
            try clear hfz9_0
            try clear hfz9_1
            try clear hx105_0
            try clear hx105_1
            try clear p1
            try clear p10
            try clear p105
            try clear p2
            try clear p6
            try clear q1
            try clear q10
            try clear q105
            obtain ⟨kq, x10_14, HA, HJ14, HO_10, BK106, HB⟩ := hcut
            cases kq with
            | zero => exact absurd HA.out (by simp [extent_list_cut.j1])
            | succ kj14 =>
              have H := HA.out
              clear HA
              simp only [extent_list_cut.j1] at H
              replace H := Option.bind_eq_some_iff.mp H
              obtain ⟨t115, A240, H⟩ := H
              replace H : ((slices_Delete.f t115 a1 (wrap64 (a1 + 1))).bind fun t118 => ((slices_Insert.f t118 a1 x10_14).bind fun t121 => (some t121))) = some r := H
              have A24 := Aside0.mk A240
              clear A240
              replace H := Option.bind_eq_some_iff.mp H
              obtain ⟨t118, A250, H⟩ := H
              replace H : ((slices_Insert.f t118 a1 x10_14).bind fun t121 => (some t121)) = some r := H
              have A25 := Aside0.mk A250
              clear A250
              replace H := Option.bind_eq_some_iff.mp H
              obtain ⟨t121, A260, H⟩ := H
              replace H : (some t121) = some r := H
              have A26 := Aside0.mk A260
              clear A260
              obtain rfl := Option.some.inj H
              go_wp2_with (first | ((with_reducible refine gate_callee (f := 38) rfl ?_); refine goesL_ (some 50) rfl rfl Try.func38 (by kernel_rfl) rfl #[.slice (some ad105) l0.length c0] rfl (by (try simp only [List.map_toArray, List.map_cons, List.map_nil]); first | done | rfl | (simp only [List.length_drop, List.length_take]; rfl)) ?_; (with_reducible refine (slices_Clone_38.calls _ _ l0 t115 _ ?side1 ?side2 A24.out).mono ?_); (case side1 => repeat (first | exact (Kd.C_below HR0.out HB.out) | (with_reducible refine Kd.C_alloc ?_ _) | (with_reducible refine Kd.C_drewN ?_ _) | (with_reducible refine Kd.C_drew ?_))); (case side2 => exact HC0.out); rintro e w27 ⟨v116, rfl, ho0, hb⟩; refine ⟨_, rfl, ?_⟩; have n0_ := Aside0.mk (Kd.R_elder' (by (with_reducible repeat (first | apply Kd.R_alloc | apply Kd.R_drewN | apply Kd.R_drew)); exact HO_10.out) (Kd.R_base ho0) hb); have n1_ := Aside0.mk (Kd.R_lower (Kd.R_newB (Kd.R_new' ho0 (Kd.R_lt (by (with_reducible repeat (first | apply Kd.R_alloc | apply Kd.R_drewN | apply Kd.R_drew)); exact HO_10.out))) (g := gb106) (o := .cells #[.int .i64 ((rd_T42 l0 a1).f0), .int .i64 ((rd_T42 l0 a1).f1)] 42 (0, 0)) (by (with_reducible repeat (first | refine blk_drewN ?_ _ | refine blk_drew ?_ | refine blk_alloc ?_ _)); exact BK106.out)) (below_size (by repeat (first | (with_reducible first | exact HB.out | apply below_alloc | apply pw_below_drewN | apply below_drew1 | refine below_set ?_ GE106.out) | exact HB.out)))); have n2_ := Aside0.mk (blk_below (g := gb106) (o := .cells #[.int .i64 ((rd_T42 l0 a1).f0), .int .i64 ((rd_T42 l0 a1).f1)] 42 (0, 0)) (by (with_reducible repeat (first | refine blk_drewN ?_ _ | refine blk_drew ?_ | refine blk_alloc ?_ _)); exact BK106.out) hb); have n3_ := Aside0.mk (below_step (by repeat (first | (with_reducible first | exact HB.out | apply below_alloc | apply pw_below_drewN | apply below_drew1 | refine below_set ?_ GE106.out) | exact HB.out)) hb); clear HO_10; clear BK106; clear HB; have HO_10 := n0_; have HO117 := n1_; have BK106 := n2_; have HB := n3_; clear n0_ n1_ n2_ n3_; (try clear hb); (try clear hb2); (try clear hk); (try clear hi); (try clear ho0); obtain ⟨Ao28, co28, eo28⟩ := Kd.R_slice HO117.out; subst eo28) | ((with_reducible refine gate_callee (f := 37) rfl ?_); refine goesL_ (some 54) rfl rfl Try.func37 (by kernel_rfl) rfl #[.slice Ao28 t115.length co28, .int .i64 a1, .int .i64 (wrap64 (a1 + 1))] rfl (by (try simp only [List.map_toArray, List.map_cons, List.map_nil]); first | done | rfl | (simp only [List.length_drop, List.length_take]; rfl)) ?_; (with_reducible refine (slices_Delete.calls (fun k_ => some k_ = (.slice Ao28 t115.length co28 : Value).ownBlock) (.slice Ao28 t115.length co28) t115 a1 (wrap64 (a1 + 1)) t118 w _ ?side1 ?side2 A25.out).mono ?_); (case side1 => repeat (first | (with_reducible first | exact HB.out | apply below_alloc | apply pw_below_drewN | apply below_drew1 | refine below_set ?_ GE106.out) | exact HB.out)); (case side2 => exact Kd.R_tight rfl HO117.out); rintro e w29 ⟨v119, rfl, ho0, hb, hkp⟩; refine ⟨_, rfl, ?_⟩; have n0_ := Aside0.mk (Kd.R_mono (ok' := fun k_ => k_ ≠ gb106 ∧ some k_ ≠ (v119 : Value).ownBlock) (Kd.R_keptB (HO_10.out) hkp (fun k_ hk_ hs_ => (hk_.2) hs_)) (fun k_ hk_ => ⟨hk_.1.1, fun e_ => Or.elim (ho0.1 k_ e_.symm) (fun hs_ => hk_.2.1 hs_) (fun hn_ => Nat.not_le.2 hk_.2.2 hn_)⟩)); have n1_ := Aside0.mk (blk_kept (by (with_reducible repeat (first | refine blk_drewN ?_ _ | refine blk_drew ?_ | refine blk_alloc ?_ _)); exact BK106.out) hkp (fun hs_ => (fun e_ => (Kd.R_away HO117.out (fun _ hk => hk.2)) e_) hs_)); have n2_ := Aside0.mk (Kd.R_mono (ok' := fun k_ => some k_ ≠ (u10 : Value).ownBlock ∧ k_ ≠ gb106) ho0 (fun k_ hk_ => ⟨Or.elim hk_ (fun hs_ => fun e_ => (((HO_10.out).1 k_ e_.symm).2) hs_) (fun hn_ => (Kd.fresh' (Kd.R_lt (by (with_reducible repeat (first | apply Kd.R_alloc | apply Kd.R_drewN | apply Kd.R_drew)); exact HO_10.out)) k_ hn_)), Or.elim hk_ (fun hs_ => fun e_ => (Kd.R_away HO117.out (fun _ hk => hk.2)) (by rw [← e_]; exact hs_)) (fun hn_ => (Kd.freshB (g := gb106) (o := .cells #[.int .i64 ((rd_T42 l0 a1).f0), .int .i64 ((rd_T42 l0 a1).f1)] 42 (0, 0)) (by (with_reducible repeat (first | refine blk_drewN ?_ _ | refine blk_drew ?_ | refine blk_alloc ?_ _)); exact BK106.out) k_ hn_))⟩)); have n3_ := Aside0.mk (hb); clear HO_10; clear BK106; clear HB; clear HO117; have HO_10 := n0_; have BK106 := n1_; have HO120 := n2_; have HB := n3_; clear n0_ n1_ n2_ n3_; (try clear hb); (try clear hkp); (try clear ho0); obtain ⟨Ao30, co30, eo30⟩ := Kd.R_slice HO120.out; subst eo30; obtain ⟨Ao31, co31, eo31⟩ := Kd.R_slice HO_10.out; subst eo31) | ((with_reducible refine gate_callee (f := 39) rfl ?_); refine goesL_ (some 58) rfl rfl Try.func39 (by kernel_rfl) rfl #[.slice Ao30 t118.length co30, .int .i64 a1, .slice Ao31 x10_14.length co31] rfl (by (try simp only [List.map_toArray, List.map_cons, List.map_nil]); first | done | rfl | (simp only [List.length_drop, List.length_take]; rfl)) ?_; (with_reducible refine (slices_Insert.calls (fun k_ => some k_ = (.slice Ao30 t118.length co30 : Value).ownBlock) (.slice Ao30 t118.length co30) t118 a1 _ _ x10_14 t121 w _ ?side1 ?side2 ?side3 ?side4 A26.out).mono ?_); (case side1 => repeat (first | (with_reducible first | exact HB.out | apply below_alloc | apply pw_below_drewN | apply below_drew1 | refine below_set ?_ GE106.out) | exact HB.out)); (case side2 => exact Kd.R_tight rfl HO120.out); (case side3 => exact Kd.C_kept_own (HO_10.out) (fun k_ hk_ hs_ => (hk_.2) hs_)); (case side4 => exact (Kd.R_reads' HO_10.out).2.1); rintro e w32 ⟨v122, rfl, ho0, hb, hkp⟩; refine ⟨_, rfl, ?_⟩; have n0_ := Aside0.mk (Kd.R_mono (ok' := fun k_ => k_ ≠ gb106 ∧ some k_ ≠ (v122 : Value).ownBlock) (Kd.R_keptB (HO_10.out) hkp (fun k_ hk_ hs_ => (hk_.2) hs_)) (fun k_ hk_ => ⟨hk_.1.1, fun e_ => Or.elim (ho0.1 k_ e_.symm) (fun hs_ => hk_.2.1 hs_) (fun hn_ => Nat.not_le.2 hk_.2.2 hn_)⟩)); have n1_ := Aside0.mk (blk_kept (by (with_reducible repeat (first | refine blk_drewN ?_ _ | refine blk_drew ?_ | refine blk_alloc ?_ _)); exact BK106.out) hkp (fun hs_ => (fun e_ => (Kd.R_away HO120.out (fun _ hk => hk.2)) e_) hs_)); have n2_ := Aside0.mk (Kd.R_mono (ok' := fun k_ => some k_ ≠ (.slice Ao31 x10_14.length co31 : Value).ownBlock ∧ k_ ≠ gb106) ho0 (fun k_ hk_ => ⟨Or.elim hk_ (fun hs_ => fun e_ => (((HO_10.out).1 k_ e_.symm).2) hs_) (fun hn_ => (Kd.fresh' (Kd.R_lt (by (with_reducible repeat (first | apply Kd.R_alloc | apply Kd.R_drewN | apply Kd.R_drew)); exact HO_10.out)) k_ hn_)), Or.elim hk_ (fun hs_ => fun e_ => (Kd.R_away HO120.out (fun _ hk => hk.2)) (by rw [← e_]; exact hs_)) (fun hn_ => (Kd.freshB (g := gb106) (o := .cells #[.int .i64 ((rd_T42 l0 a1).f0), .int .i64 ((rd_T42 l0 a1).f1)] 42 (0, 0)) (by (with_reducible repeat (first | refine blk_drewN ?_ _ | refine blk_drew ?_ | refine blk_alloc ?_ _)); exact BK106.out) k_ hn_))⟩)); have n3_ := Aside0.mk (hb); clear HO_10; clear BK106; clear HB; clear HO120; have HO_10 := n0_; have BK106 := n1_; have HO123 := n2_; have HB := n3_; clear n0_ n1_ n2_ n3_; (try clear hb); (try clear hkp); (try clear ho0)))
              go_ret
              exact ⟨_, by first | rfl | (simp [errW_none, errW_some] <;> rfl) | (simp [*, errW_none, errW_some] <;> rfl), by (with_reducible repeat (first | apply Kd.R_alloc | apply Kd.R_drewN | apply Kd.R_drew)); exact Kd.R_mono HO123.out (fun _ hk => trivial), by repeat (first | (with_reducible first | exact HB.out | apply below_alloc | apply pw_below_drewN | apply below_drew1 | refine below_set ?_ GE106.out) | exact HB.out)⟩
    · rw [if_neg c6] at H
      exact absurd H (by simp)
  · rw [if_neg c5] at H
    exact absurd H (by simp)

/-! ### extent_Alloc: function 10 -/
def extent_Alloc.l0 : Nat → List (S42) → Int → Int → Option Int
  | 0, _, _, _ => none
  | k + 1, l, n, i => if i < (l.length : Int) then (if (rd_T42 l i).f1 ≥ n then some i else extent_Alloc.l0 k l n (i + 1)) else some (-1)
def extent_Alloc.f (k : Nat) (l0 : List (S42)) (a1 : Int) : Option (Int × List (S42) × Int) :=
  (extent_Check.f k l0).bind fun t => if t = 0 then (if a1 < 1 then some (0, [], 2) else (extent_Alloc.l0 k l0 a1 0).bind fun i => if i < 0 then some (0, [], 8) else if i < (l0.length : Int) then (extent_list_cut.f k l0 i (rd_T42 l0 i).f0 a1).bind fun r => some ((rd_T42 l0 i).f0, r, 0) else none) else some (0, [], 2)
theorem extent_Alloc.mono_l : ∀ k, (∀ y0 y1 y2, LeO (extent_Alloc.l0 k y0 y1 y2) (extent_Alloc.l0 (k + 1) y0 y1 y2))
  | 0 => fun _ _ _ r h => by simp [extent_Alloc.l0] at h
  | k + 1 => by
    have ih0 := extent_Alloc.mono_l k
    intro y0 y1 y2
    unfold extent_Alloc.l0
    exact LeO.ite (LeO.ite (LeO.refl _) (ih0 _ _ _)) (LeO.refl _)
theorem extent_Alloc.mono : ∀ a0 a1 k, LeO (extent_Alloc.f k a0 a1) (extent_Alloc.f (k + 1) a0 a1) := by
  intro a0 a1 k
  unfold extent_Alloc.f
  refine LeO.bind (extent_Check.mono _ k) fun t => LeO.ite (LeO.ite (LeO.refl _) (LeO.bind (extent_Alloc.mono_l k _ _ _) fun i => LeO.ite (LeO.refl _) (LeO.ite (LeO.bind (extent_list_cut.mono _ _ _ _ k) fun r => LeO.refl _) (LeO.refl _)))) (LeO.refl _)
set_option maxHeartbeats 8000000 in
set_option maxRecDepth 100000 in
theorem extent_Alloc.cl (x0 x1 n : Int) (g : Nat) (w : World) (hg : w.cell? ⟨g, 0, none⟩ = some (.int .i64 n)) :
    Calls Try.prog 27 #[.agg #[.int .i64 x0, .int .i64 x1], .pointer (some ⟨g, 0, none⟩)] w fun e w' => e = .returned (.bool (decide (x1 ≥ n))) ∧ Below w.heap.size w w' := by
  have hgx := pw_cell_below (below_alloc (Below.refl _ _) (.cells #[.int .i64 x0, .int .i64 x1] 42)) hg
  have hlt := World.block_lt_of_cell? w _ hg
  go_enter Try.func27, Try.ntmps27
  go_wp2
  go_ret
  exact ⟨rfl, below_alloc (Below.refl _ _) _⟩
set_option maxHeartbeats 8000000 in
set_option maxRecDepth 100000 in
theorem extent_Alloc.ix (k : Nat) (A0 : Option Addr) (c0 : Nat) (l0 : List (S42)) (n : Int) (g : Nat) (r : Int) (w : World) (hg : w.cell? ⟨g, 0, none⟩ = some (.int .i64 n)) (hr0 : Kd.C k42 w A0 l0.length l0) (h : extent_Alloc.l0 k l0 n 0 = some r) :
    Calls Try.prog 26 #[.slice A0 l0.length c0, .func (.func 27) #[] #[.pointer (some ⟨g, 0, none⟩)]] w fun e w' => e = .returned (.int .i64 r) ∧ Below w.heap.size w w' := by
  have HR0 := Aside0.mk hr0
  have H' := Aside0.mk h
  have HG := Aside0.mk hg
  have hlm : l0.length ≤ 9223372036854775807 := hr0.2.1
  clear hr0 h hg
  go_enter Try.func26, Try.ntmps26
  go_wp2
  go_loopg [8, 5] k (fun kq v8 v5 w' => ∃ (x8 : Int), v8 = .int .i64 x8 ∧ 0 ≤ x8 ∧ x8 ≤ l0.length ∧ Aside0 (extent_Alloc.l0 kq l0 n x8 = some r) ∧ Aside0 (kq ≤ k) ∧ Aside0 (Below w.heap.size w w'))
  case atStart => exact ⟨0, rfl, by omega, by omega, H', ⟨Nat.le_refl _⟩, ⟨Below.refl _ _⟩⟩
  case round =>
    clear H'
    obtain ⟨x8, rfl, h1, h2, HA, HK, HB⟩ := hrel
    cases gk with
    | zero => exact absurd HA.out (by simp [extent_Alloc.l0])
    | succ k1 =>
      have H := HA.out
      clear HA
      simp only [extent_Alloc.l0] at H
      have HGr := Aside0.mk (pw_cell_below HB.out HG.out)
      by_cases c1 : x8 < (l0.length : Int)
      · rw [if_pos c1] at H
        have hd : decide (x8 < (l0.length : Int)) = true := decide_eq_true c1
        obtain ⟨ad, rfl, hx0, hx1⟩ := at_T42 HR0.out _ h1 c1
        replace hx0 := (HB.out.cell (World.block_lt_of_cell? w _ hx0)).trans hx0
        replace hx1 := (HB.out.cell (World.block_lt_of_cell? w _ hx1)).trans hx1
        by_cases c2 : (rd_T42 l0 x8).f1 ≥ n
        · rw [if_pos c2] at H
          obtain rfl := Option.some.inj H
          go_wp2_with (go_at_call 27; refine (extent_Alloc.cl _ _ _ _ _ HGr.out).mono ?_; rintro e w' ⟨rfl, hb⟩; rw [decide_eq_true c2]; have HB2 := Aside0.mk (below_step HB.out hb); clear hb)
          go_ret
          exact ⟨rfl, HB2.out⟩
        · rw [if_neg c2] at H
          have HH := Aside0.mk H
          clear H
          go_wp2_with (go_at_call 27; refine (extent_Alloc.cl _ _ _ _ _ HGr.out).mono ?_; rintro e w' ⟨rfl, hb⟩; rw [decide_eq_false c2]; have HB2 := Aside0.mk (below_step HB.out hb); clear hb)
          go_roundg k1
          case measure => have := HK.out; omega
          case rel => exact ⟨x8 + 1, rfl, by omega, by omega, HH, ⟨by have := HK.out; omega⟩, HB2⟩
      · rw [if_neg c1] at H
        obtain rfl := Option.some.inj H
        have hd : decide (x8 < (l0.length : Int)) = false := decide_eq_false c1
        go_wp2
        go_ret
        exact ⟨rfl, HB.out⟩
set_option maxHeartbeats 8000000 in
set_option maxRecDepth 100000 in
theorem extent_Alloc.calls (k : Nat) (A0 : Option Addr) (c0 : Nat) (l0 : List (S42)) (a1 : Int) (r1 : Int) (r2 : List (S42)) (r3 : Int) (w : World) (hr0 : Kd.C k42 w A0 l0.length l0) (hc0 : l0.length ≤ c0) (h : extent_Alloc.f k l0 a1 = some (r1, r2, r3)) :
    Calls Try.prog 10 #[.slice A0 l0.length c0, .int .i64 a1] w fun e w' => ∃ v1_ : Value, e = .returned (.tuple #[.int .i64 r1, v1_, .int .i64 r3]) ∧ Kd.R k42 42 w' w.heap.size (fun _ => True) v1_ r2 ∧ Below w.heap.size w w' := by
  unfold extent_Alloc.f at h
  obtain ⟨t, ht, h⟩ := Option.bind_eq_some_iff.1 h
  have HR0 := Aside0.mk hr0
  have HC0 := Aside0.mk hc0
  have HT := Aside0.mk ht
  have HB0 := Aside0.mk (below_alloc (Below.refl w.heap.size w) (.cells #[.int .i64 a1] 3))
  have HG := Aside0.mk (show (w.alloc (.cells #[.int .i64 a1] 3)).cell? ⟨w.heap.size, 0, none⟩ = some (.int .i64 a1) by simp)
  clear hr0 hc0 ht
  by_cases c1 : t = 0
  · rw [if_pos c1] at h
    have d1 : (t == 0) = true := beq_iff_eq.mpr c1
    have d2 : (t != 0) = false := bne_eq_false_iff_eq.mpr c1
    clear c1
    by_cases c2 : a1 < 1
    · rw [if_pos c2] at h
      have d3 : decide (a1 < 1) = true := decide_eq_true c2
      obtain ⟨rfl, rfl, rfl⟩ : 0 = r1 ∧ [] = r2 ∧ 2 = r3 := by simpa using h
      go_enter Try.func10, Try.ntmps10
      go_wp2_with (go_at_call 18; refine (extent_Check.calls k _ _ _ t _ (Kd.C_below HR0.out HB0.out) HC0.out HT.out).mono ?_; rintro e w' ⟨rfl, hb⟩; have HB := Aside0.mk (below_step HB0.out hb); have HGr := Aside0.mk (pw_cell_below hb HG.out); have HGx := HGr.out; clear hb)
      go_ret3
      exact ⟨_, rfl, Kd.R_nil _ _ _ _ _, HB.out⟩
    · rw [if_neg c2] at h
      have d3 : decide (a1 < 1) = false := decide_eq_false c2
      obtain ⟨i, hi, h⟩ := Option.bind_eq_some_iff.1 h
      have HI := Aside0.mk hi
      clear hi
      by_cases c3 : i < 0
      · rw [if_pos c3] at h
        have d4 : decide (i < 0) = true := decide_eq_true c3
        obtain ⟨rfl, rfl, rfl⟩ : 0 = r1 ∧ [] = r2 ∧ 8 = r3 := by simpa using h
        go_enter Try.func10, Try.ntmps10
        go_wp2_with (first | (go_at_call 18; refine (extent_Check.calls k _ _ _ t _ (Kd.C_below HR0.out HB0.out) HC0.out HT.out).mono ?_; rintro e w' ⟨rfl, hb⟩; have HB := Aside0.mk (below_step HB0.out hb); have HGr := Aside0.mk (pw_cell_below hb HG.out); have HGx := HGr.out; clear hb) | (go_at_call 26; refine (extent_Alloc.ix k _ _ _ a1 _ i _ HGr.out (Kd.C_below HR0.out HB.out) HI.out).mono ?_; rintro e w' ⟨rfl, hb⟩; have HB2 := Aside0.mk (below_step HB.out hb); clear hb))
        go_ret3
        exact ⟨_, rfl, Kd.R_nil _ _ _ _ _, HB2.out⟩
      · rw [if_neg c3] at h
        have d4 : decide (i < 0) = false := decide_eq_false c3
        by_cases c4 : i < (l0.length : Int)
        · rw [if_pos c4] at h
          obtain ⟨rr, hrr, h⟩ := Option.bind_eq_some_iff.1 h
          obtain ⟨rfl, rfl, rfl⟩ : (rd_T42 l0 i).f0 = r1 ∧ rr = r2 ∧ 0 = r3 := by simpa using h
          have HRR := Aside0.mk hrr
          clear hrr h
          have p1 : 0 ≤ i := by omega
          obtain ⟨ad, rfl, hx0, hx1⟩ := at_T42 HR0.out i p1 c4
          have HX0 := Aside0.mk hx0
          clear hx0 hx1
          go_enter Try.func10, Try.ntmps10
          go_wp2_with (first | (go_at_call 18; refine (extent_Check.calls k _ _ _ t _ (Kd.C_below HR0.out HB0.out) HC0.out HT.out).mono ?_; rintro e w' ⟨rfl, hb⟩; have HB := Aside0.mk (below_step HB0.out hb); have HGr := Aside0.mk (pw_cell_below hb HG.out); have HGx := HGr.out; clear hb) | (go_at_call 26; refine (extent_Alloc.ix k _ _ _ a1 _ i _ HGr.out (Kd.C_below HR0.out HB.out) HI.out).mono ?_; rintro e w' ⟨rfl, hb⟩; have HB2 := Aside0.mk (below_step HB.out hb); have HGs := Aside0.mk (pw_cell_below hb HGr.out); have HGy := HGs.out; have HXs := pw_cell_below HB2.out HX0.out; clear hb HGx) | (go_at_call 28; refine (extent_list_cut.calls k _ _ _ i _ a1 rr _ (Kd.C_below HR0.out HB2.out) HC0.out HRR.out).mono ?_; rintro e w' ⟨v0_, rfl, hR, hb⟩; have HB3 := Aside0.mk (below_step HB2.out hb); have HR3 := Aside0.mk (Kd.R_lower hR (below_size HB2.out)); clear hR hb))
          go_ret3
          exact ⟨_, rfl, HR3.out, HB3.out⟩
        · rw [if_neg c4] at h
          cases h
  · rw [if_neg c1] at h
    have d1 : (t == 0) = false := beq_eq_false_iff_ne.mpr c1
    have d2 : (t != 0) = true := bne_iff_ne.mpr c1
    obtain ⟨rfl, rfl, rfl⟩ : 0 = r1 ∧ [] = r2 ∧ 2 = r3 := by simpa using h
    go_enter Try.func10, Try.ntmps10
    go_wp2_with (go_at_call 18; refine (extent_Check.calls k _ _ _ t _ (Kd.C_below HR0.out HB0.out) HC0.out HT.out).mono ?_; rintro e w' ⟨rfl, hb⟩; have HB := Aside0.mk (below_step HB0.out hb); have HGr := Aside0.mk (pw_cell_below hb HG.out); have HGx := HGr.out; clear hb)
    go_ret3
    exact ⟨_, rfl, Kd.R_nil _ _ _ _ _, HB.out⟩

end Go.Proofs.Ytobleaodacnpiaa.XE
