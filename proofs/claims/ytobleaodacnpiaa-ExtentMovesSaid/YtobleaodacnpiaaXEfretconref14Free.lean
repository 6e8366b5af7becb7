-- Printed by xprint.py (a program of this work, over the kit's print.py). Lean checks it.
import Derived.Test.YtobleaodacnpiaaXE0
import Derived.Test.YtobleaodacnpiaaXEgrcheck
namespace Go.Proofs.Ytobleaodacnpiaa.XE
open Go.RowKit Go.Proofs.YtobleaodacnpiaaW.PrintWords Go.Proofs.YtobleaodacnpiaaW.PrintLast Go.Proofs.YtobleaodacnpiaaW.PrintMore
attribute [local go_sem] max2_int min2_int max_two min_two max_three min_three max_four min_four   -- for this text's walks alone
set_option linter.unusedVariables false
set_option linter.unusedSimpArgs false

/-! ### retconref14_Free: function 16 -/
mutual
def retconref14_Free.j0 : Nat → List (S42) → Int → Int → Bool → Option ((List (S42)) × Int)
  | 0, _, _, _, _ => none
  | k + 1, x0, x1, x2, x21 => if x21 = true then (some (([] : List (S42)), 2)) else (retconref14_Free.l0 k x0 ([] : List (S42)) false 0 x1 x2)
def retconref14_Free.l0 : Nat → List (S42) → List (S42) → Bool → Int → Int → Int → Option ((List (S42)) × Int)
  | 0, _, _, _, _, _, _ => none
  | k + 1, x0, x9, x10, x11, x397000, x397001 => if x11 < (x0.length : Int) then (if 0 ≤ x11 then (if ((rd_T42 x0 x11).f0) < (wrap64 (x397000 + x397001)) then (retconref14_Free.j2 k x0 x9 x10 x11 (decide (x397000 < (wrap64 (((rd_T42 x0 x11).f0) + ((rd_T42 x0 x11).f1))))) x397000 x397001 ((rd_T42 x0 x11).f0) ((rd_T42 x0 x11).f1)) else (retconref14_Free.j2 k x0 x9 x10 x11 false x397000 x397001 ((rd_T42 x0 x11).f0) ((rd_T42 x0 x11).f1))) else (none)) else (if x10 = true then (some (x9, 0)) else (if x9.length < 8796093022208 then (some ((x9 ++ [(⟨x397000, x397001⟩ : S42)]), 0)) else (none)))
def retconref14_Free.j2 : Nat → List (S42) → List (S42) → Bool → Int → Bool → Int → Int → Int → Int → Option ((List (S42)) × Int)
  | 0, _, _, _, _, _, _, _, _, _ => none
  | k + 1, x0, x9, x10, x11, x45, x397000, x397001, x399000, x399001 => if x45 = true then (some (([] : List (S42)), 7)) else (if (wrap64 (x399000 + x399001)) = x397000 then (retconref14_Free.l0 k x0 x9 x10 (wrap64 (x11 + 1)) x399000 (wrap64 (x399001 + x397001))) else (if (wrap64 (x397000 + x397001)) = x399000 then (retconref14_Free.l0 k x0 x9 x10 (wrap64 (x11 + 1)) x397000 (wrap64 (x397001 + x399001))) else (if x399000 < x397000 then (if x9.length < 8796093022208 then (retconref14_Free.l0 k x0 (x9 ++ [(⟨x399000, x399001⟩ : S42)]) x10 (wrap64 (x11 + 1)) x397000 x397001) else (none)) else (if x10 = true then (if x9.length < 8796093022208 then (retconref14_Free.l0 k x0 (x9 ++ [(⟨x399000, x399001⟩ : S42)]) true (wrap64 (x11 + 1)) x397000 x397001) else (none)) else (if x9.length < 8796093022208 then ((some (x9 ++ [(⟨x397000, x397001⟩ : S42)] : List (S42))).bind fun y405 => (if y405.length < 8796093022208 then (retconref14_Free.l0 k x0 (y405 ++ [(⟨x399000, x399001⟩ : S42)]) true (wrap64 (x11 + 1)) x397000 x397001) else (none))) else (none))))))
end
def retconref14_Free.f (k : Nat) (l0 : List (S42)) (a1 : Int) (a2 : Int) : Option ((List (S42)) × Int) := (retconref14_Check.f k l0).bind fun t394 => (if t394 = 0 then ((retconref14_row.f a1 a2).bind fun t395 => (retconref14_Free.j0 k l0 a1 a2 (!t395))) else (retconref14_Free.j0 k l0 a1 a2 true))
theorem retconref14_Free.mono_l : ∀ k, (∀ y0 y1 y2 y3, LeO (retconref14_Free.j0 k y0 y1 y2 y3) (retconref14_Free.j0 (k + 1) y0 y1 y2 y3)) ∧ (∀ y0 y1 y2 y3 y4 y5, LeO (retconref14_Free.l0 k y0 y1 y2 y3 y4 y5) (retconref14_Free.l0 (k + 1) y0 y1 y2 y3 y4 y5)) ∧ (∀ y0 y1 y2 y3 y4 y5 y6 y7 y8, LeO (retconref14_Free.j2 k y0 y1 y2 y3 y4 y5 y6 y7 y8) (retconref14_Free.j2 (k + 1) y0 y1 y2 y3 y4 y5 y6 y7 y8))
  | 0 => ⟨fun _ _ _ _ r h => by simp [retconref14_Free.j0] at h, fun _ _ _ _ _ _ r h => by simp [retconref14_Free.l0] at h, fun _ _ _ _ _ _ _ _ _ r h => by simp [retconref14_Free.j2] at h⟩
  | k + 1 => by
    obtain ⟨ih0, ih1, ih2⟩ := retconref14_Free.mono_l k
    refine ⟨?_, ?_, ?_⟩
    · intro y0 y1 y2 y3
      unfold retconref14_Free.j0
      repeat' first
      | (with_reducible exact ih0 _ _ _ _)
      | (with_reducible exact ih1 _ _ _ _ _ _)
      | (with_reducible exact ih2 _ _ _ _ _ _ _ _ _)
      | (with_reducible exact retconref14_Check.mono _ _)
      | (with_reducible exact LeO.refl _)
      | (with_reducible exact LeO.none _)
      | (with_reducible refine LeO.ite ?_ ?_)
      | (with_reducible refine LeO.bind ?_ (fun _ => ?_))
      | exact ih0 _ _ _ _
      | exact ih1 _ _ _ _ _ _
      | exact ih2 _ _ _ _ _ _ _ _ _
      | exact retconref14_Check.mono _ _
      | exact LeO.none _
      | refine LeO.ite ?_ ?_
      | refine LeO.bind ?_ (fun _ => ?_)
    · intro y0 y1 y2 y3 y4 y5
      unfold retconref14_Free.l0
      repeat' first
      | (with_reducible exact ih0 _ _ _ _)
      | (with_reducible exact ih1 _ _ _ _ _ _)
      | (with_reducible exact ih2 _ _ _ _ _ _ _ _ _)
      | (with_reducible exact retconref14_Check.mono _ _)
      | (with_reducible exact LeO.refl _)
      | (with_reducible exact LeO.none _)
      | (with_reducible refine LeO.ite ?_ ?_)
      | (with_reducible refine LeO.bind ?_ (fun _ => ?_))
      | exact ih0 _ _ _ _
      | exact ih1 _ _ _ _ _ _
      | exact ih2 _ _ _ _ _ _ _ _ _
      | exact retconref14_Check.mono _ _
      | exact LeO.none _
      | refine LeO.ite ?_ ?_
      | refine LeO.bind ?_ (fun _ => ?_)
    · intro y0 y1 y2 y3 y4 y5 y6 y7 y8
      unfold retconref14_Free.j2
      repeat' first
      | (with_reducible exact ih0 _ _ _ _)
      | (with_reducible exact ih1 _ _ _ _ _ _)
      | (with_reducible exact ih2 _ _ _ _ _ _ _ _ _)
      | (with_reducible exact retconref14_Check.mono _ _)
      | (with_reducible exact LeO.refl _)
      | (with_reducible exact LeO.none _)
      | (with_reducible refine LeO.ite ?_ ?_)
      | (with_reducible refine LeO.bind ?_ (fun _ => ?_))
      | exact ih0 _ _ _ _
      | exact ih1 _ _ _ _ _ _
      | exact ih2 _ _ _ _ _ _ _ _ _
      | exact retconref14_Check.mono _ _
      | exact LeO.none _
      | refine LeO.ite ?_ ?_
      | refine LeO.bind ?_ (fun _ => ?_)
theorem retconref14_Free.mono : ∀ a0 a1 a2 k, LeO (retconref14_Free.f k a0 a1 a2) (retconref14_Free.f (k + 1) a0 a1 a2) := by
  intro a0 a1 a2 k
  obtain ⟨ih0, ih1, ih2⟩ := retconref14_Free.mono_l k
  unfold retconref14_Free.f
  repeat' first
      | (with_reducible exact ih0 _ _ _ _)
      | (with_reducible exact ih1 _ _ _ _ _ _)
      | (with_reducible exact ih2 _ _ _ _ _ _ _ _ _)
      | (with_reducible exact retconref14_Check.mono _ _)
      | (with_reducible exact LeO.refl _)
      | (with_reducible exact LeO.none _)
      | (with_reducible refine LeO.ite ?_ ?_)
      | (with_reducible refine LeO.bind ?_ (fun _ => ?_))
      | exact ih0 _ _ _ _
      | exact ih1 _ _ _ _ _ _
      | exact ih2 _ _ _ _ _ _ _ _ _
      | exact retconref14_Check.mono _ _
      | exact LeO.none _
      | refine LeO.ite ?_ ?_
      | refine LeO.bind ?_ (fun _ => ?_)
set_option maxHeartbeats 8000000 in
set_option maxRecDepth 100000 in
theorem retconref14_Free.calls (k : Nat) (A0 : Option Addr) (c0 : Nat) (l0 : List (S42)) (a1 : Int) (a2 : Int) (r1 : List (S42)) (r2 : Int) (w : World) (hr0 : Kd.C k42 w A0 l0.length l0) (hc0 : l0.length ≤ c0) (h : retconref14_Free.f k l0 a1 a2 = some (r1, r2)) :
    Calls Try.prog 16 #[.slice A0 l0.length c0, .int .i64 a1, .int .i64 a2] w fun e w' => ∃ v0_ : Value, e = .returned (.tuple #[v0_, .int .i64 r2]) ∧ Kd.R k42 42 w' w.heap.size (fun _ => True) v0_ r1 ∧ Below w.heap.size w w' := by
  have hu42 := Try.underlying42
  have HR0 := Aside0.mk hr0
  have HC0 := Aside0.mk hc0
  clear hr0 hc0
  have HB := Aside0.mk (Below.refl w.heap.size w)
  have H : ((retconref14_Check.f k l0).bind fun t394 => (if t394 = 0 then ((retconref14_row.f a1 a2).bind fun t395 => (retconref14_Free.j0 k l0 a1 a2 (!t395))) else (retconref14_Free.j0 k l0 a1 a2 true))) = some (r1, r2) := h
  clear h
  have HC4 := Aside0.mk H
  clear H
  go_enter Try.func16, Try.ntmps16
  go_upto_region 1 with (fail)
  go_cut [21] (fun v21 wc => ∃ (kq : Nat) (x21_3 : Bool), v21 = .bool x21_3 ∧ Aside0 (retconref14_Free.j0 kq l0 a1 a2 x21_3 = some (r1, r2)) ∧ Aside0 (kq ≤ k) ∧ Aside0 (Below w.heap.size w wc))
  case first =>
    have H := HC4.out
    clear HC4
    replace H := Option.bind_eq_some_iff.mp H
    obtain ⟨t394, A50, H⟩ := H
    replace H : (if t394 = 0 then ((retconref14_row.f a1 a2).bind fun t395 => (retconref14_Free.j0 k l0 a1 a2 (!t395))) else (retconref14_Free.j0 k l0 a1 a2 true)) = some (r1, r2) := H
    have A5 := Aside0.mk A50
    clear A50
    by_cases c6 : t394 = 0
    · rw [if_pos c6] at H
      have c6b0 : (t394 == 0) = true := beq_iff_eq.mpr c6
      have c6b1 : (t394 != 0) = false := bne_eq_false_iff_eq.mpr c6
      clear c6
      (first | rw [c6b0] | (simp only [i64_w, i32_w]; rw [c6b0]) | skip)
      replace H := Option.bind_eq_some_iff.mp H
      obtain ⟨t395, A70, H⟩ := H
      replace H : (retconref14_Free.j0 k l0 a1 a2 (!t395)) = some (r1, r2) := H
      have A7 := Aside0.mk A70
      clear A70
      have H' := Aside0.mk H
      clear H
      go_wp2_with (first | ((with_reducible refine gate_callee (f := 19) rfl ?_); refine goesL_ (some 14) rfl rfl Try.func19 (by kernel_rfl) rfl #[.slice A0 l0.length c0] rfl (by (try simp only [List.map_toArray, List.map_cons, List.map_nil]); first | done | rfl | (simp only [List.length_drop, List.length_take]; rfl)) ?_; (with_reducible refine (retconref14_Check.calls k _ _ l0 t394 _ ?side1 ?side2 A5.out).mono ?_); (case side1 => repeat (first | exact (Kd.C_below HR0.out HB.out) | (with_reducible refine Kd.C_alloc ?_ _) | (with_reducible refine Kd.C_drewN ?_ _) | (with_reducible refine Kd.C_drew ?_))); (case side2 => exact HC0.out); rintro e w' ⟨rfl, ⟨nd, rfl⟩⟩; refine ⟨_, rfl, ?_⟩) | (go_at_call 34; (with_reducible refine (retconref14_row.calls a1 a2 t395 _ A7.out).mono ?_); rintro e w' ⟨rfl, ⟨nd, rfl⟩⟩))
      go_meet
      case rel => exact ⟨_, (!t395), (by first | rfl | (simp; done) | (simp [*]; done)), H', ⟨by first | omega | exact Nat.le_refl _⟩, ⟨by repeat (first | (with_reducible first | exact HB.out | apply below_alloc | apply pw_below_drewN | apply below_drew1) | exact HB.out)⟩⟩
    · rw [if_neg c6] at H
      have c6b0 : (t394 == 0) = false := beq_eq_false_iff_ne.mpr c6
      have c6b1 : (t394 != 0) = true := bne_iff_ne.mpr c6
      (first | rw [c6b0] | (simp only [i64_w, i32_w]; rw [c6b0]) | skip)
      have H' := Aside0.mk H
      clear H
      go_wp2_with (first | ((with_reducible refine gate_callee (f := 19) rfl ?_); refine goesL_ (some 14) rfl rfl Try.func19 (by kernel_rfl) rfl #[.slice A0 l0.length c0] rfl (by (try simp only [List.map_toArray, List.map_cons, List.map_nil]); first | done | rfl | (simp only [List.length_drop, List.length_take]; rfl)) ?_; (with_reducible refine (retconref14_Check.calls k _ _ l0 t394 _ ?side1 ?side2 A5.out).mono ?_); (case side1 => repeat (first | exact (Kd.C_below HR0.out HB.out) | (with_reducible refine Kd.C_alloc ?_ _) | (with_reducible refine Kd.C_drewN ?_ _) | (with_reducible refine Kd.C_drew ?_))); (case side2 => exact HC0.out); rintro e w' ⟨rfl, ⟨nd, rfl⟩⟩; refine ⟨_, rfl, ?_⟩))
      go_meet
      case rel => exact ⟨_, (true), (by first | rfl | (simp; done) | (simp [*]; done)), H', ⟨by first | omega | exact Nat.le_refl _⟩, ⟨by repeat (first | (with_reducible first | exact HB.out | apply below_alloc | apply pw_below_drewN | apply below_drew1) | exact HB.out)⟩⟩
  case rest =>
    clear HC4
    try clear c1
    try clear p2
    try clear c6
    try clear c6b0
    try clear c6b1
    obtain ⟨kq, x21_3, rfl, HA, HJ3, HB⟩ := hcut
    cases kq with
    | zero => exact absurd HA.out (by simp [retconref14_Free.j0])
    | succ kj3 =>
      have H := HA.out
      clear HA
      simp only [retconref14_Free.j0] at H
      by_cases c8 : x21_3 = true
      · subst c8
        have H1 : (some (([] : List (S42)), 2)) = some (r1, r2) := by rw [if_pos rfl] at H; exact H
        clear H
        have H := H1
        clear H1
        simp only [Option.some.injEq, Prod.mk.injEq] at H
        obtain ⟨rfl, rfl⟩ := H
        go_wp2
        go_ret2
        exact ⟨_, by first | rfl | (simp [errW_none, errW_some] <;> rfl) | (simp [*, errW_none, errW_some] <;> rfl), by first | exact Kd.R_nil _ _ _ _ _ | exact Kd.N_nil _ _ _ _ _ | exact Kd.V_nil _ _ _ _ _ | exact Kd.Q_nil _ _ _ _ _ | exact Kd.S_nil _ _ _ _ _, by repeat (first | (with_reducible first | exact HB.out | apply below_alloc | apply pw_below_drewN | apply below_drew1) | exact HB.out)⟩
      · replace c8 := Bool.eq_false_iff.mpr c8
        subst c8
        have H1 : (retconref14_Free.l0 kj3 l0 ([] : List (S42)) false 0 a1 a2) = some (r1, r2) := by rw [if_neg (show ¬ (false = true) by decide)] at H; exact H
        clear H
        have H := H1
        clear H1
        have H' := Aside0.mk H
        clear H
        go_wp2_with (first | ((with_reducible refine gate_dst (N := 8) rfl ?_); refine box_event ?hg (N := 8) ?hd (cs := #[.int .i64 0, .int .i64 0]) (t := 42) ?hr ?_; (case hd => rfl); (case hg => rfl); (case hr => first | (go_simp; done) | (go_simp; rfl)); intro gb396 hg w9 hbox hb; have n0_ := Aside0.mk (below_step (by repeat (first | (with_reducible first | exact HB.out | apply below_alloc | apply pw_below_drewN | apply below_drew1) | exact HB.out)) hb); have n1_ := Aside0.mk (hbox); have n2_ := Aside0.mk ((by rw [hg]; exact (below_size (by repeat (first | (with_reducible first | exact HB.out | apply below_alloc | apply pw_below_drewN | apply below_drew1) | exact HB.out))) : w.heap.size ≤ gb396)); have n3_ := Aside0.mk ((by rw [hg]; exact (below_size (by repeat (first | (with_reducible first | exact HB.out | apply below_alloc | apply pw_below_drewN | apply below_drew1) | exact HB.out))) : w.heap.size ≤ gb396)); clear HB; have HB := n0_; have BK396 := n1_; have GW396 := n2_; have GE396 := n3_; clear n0_ n1_ n2_ n3_; clear hb hbox hg; have hcz10_0 : w9.cell? ⟨gb396, 0, none⟩ = some (.int .i64 0) := (blk_cell BK396.out 0).trans rfl; have hcz10_1 : w9.cell? ⟨gb396, 1, none⟩ = some (.int .i64 0) := (blk_cell BK396.out 1).trans rfl; have hfz10_0 := blk_frozen BK396.out 0; have hfz10_1 := blk_frozen BK396.out 1))
        go_loopg [9, 10, 11] kj3 (fun kq v9 v10 v11 w' => ∃ (x9_2 : List (S42)) (x10_2 : Bool) (x11_2 : Int) (x397000_2 : Int) (x397001_2 : Int), v10 = .bool x10_2 ∧ v11 = .int .i64 x11_2 ∧ Aside0 (retconref14_Free.l0 kq l0 x9_2 x10_2 x11_2 x397000_2 x397001_2 = some (r1, r2)) ∧ Aside0 (kq ≤ kj3) ∧ Aside0 (Kd.R k42 42 w' w.heap.size (fun k_ => k_ ≠ gb396) v9 x9_2) ∧ Aside0 (w'.heap[gb396]? = some (.cells #[.int .i64 x397000_2, .int .i64 x397001_2] 42 (0, 0))) ∧ Aside0 (Below w.heap.size w w'))
        case atStart => exact ⟨(([] : List (S42))), (false), (0), (a1), (a2), (by first | rfl | (simp; done) | (simp [*]; done)), (by first | rfl | (simp; done) | (simp [*]; done)), H', ⟨Nat.le_refl _⟩, ⟨by first | exact Kd.R_nil _ _ _ _ _ | exact Kd.N_nil _ _ _ _ _ | exact Kd.V_nil _ _ _ _ _ | exact Kd.Q_nil _ _ _ _ _ | exact Kd.S_nil _ _ _ _ _⟩, ⟨by (with_reducible repeat (first | refine blk_drewN ?_ _ | refine blk_drew ?_ | refine blk_alloc ?_ _)); refine blk_put (cs := #[.int .i64 a1, .int .i64 0]) ?_ 1 _ rfl; (with_reducible repeat (first | refine blk_drewN ?_ _ | refine blk_drew ?_ | refine blk_alloc ?_ _)); refine blk_put (cs := #[.int .i64 0, .int .i64 0]) ?_ 0 _ rfl; (with_reducible repeat (first | refine blk_drewN ?_ _ | refine blk_drew ?_ | refine blk_alloc ?_ _)); exact BK396.out⟩, ⟨by repeat (first | (with_reducible first | exact HB.out | apply below_alloc | apply pw_below_drewN | apply below_drew1 | refine below_set ?_ GE396.out) | exact HB.out)⟩⟩
        case round =>
          clear H'
          try clear c1
          try clear p2
          try clear c6
          try clear c6b0
          try clear c6b1
          try clear c8
          try clear hcz10_0
          try clear hcz10_1
          try clear hfz10_0
          try clear hfz10_1
          try clear p2
          obtain ⟨x9_2, x10_2, x11_2, x397000_2, x397001_2, rfl, rfl, HA, HK2, HO_9, BK396, HB⟩ := hrel
          cases gk with
          | zero => exact absurd HA.out (by simp [retconref14_Free.l0])
          | succ k2 =>
            have H := HA.out
            clear HA
            simp only [retconref14_Free.l0] at H
            by_cases c11 : x11_2 < (l0.length : Int)
            · rw [if_pos c11] at H
              have c11b0 : decide (x11_2 < (l0.length : Int)) = true := decide_eq_true c11
              clear c11
              by_cases c12 : 0 ≤ x11_2
              · rw [if_pos c12] at H
                have c12b0 : decide (0 ≤ x11_2) = true := decide_eq_true c12
                clear c12
                have HC13 := Aside0.mk H
                clear H
                have p397 : 0 ≤ (x11_2 : Int) := of_decide_eq_true (by first | (with_reducible assumption) | assumption)
                have q397 : x11_2 < (l0.length : Int) := of_decide_eq_true (by first | (with_reducible assumption) | assumption)
                obtain ⟨ad397, e397, hx397_0, hx397_1⟩ := at_T42 HR0.out x11_2 p397 q397
                cases e397
                replace hx397_0 := (HB.out.cell (World.block_lt_of_cell? w _ hx397_0)).trans hx397_0
                replace hx397_1 := (HB.out.cell (World.block_lt_of_cell? w _ hx397_1)).trans hx397_1
                replace p397 := eq_true p397
                replace q397 := eq_true q397
                go_upto_region 14 with (first | ((with_reducible refine gate_dst (N := 12) rfl ?_); refine box_event ?hg (N := 12) ?hd (cs := #[.int .i64 0, .int .i64 0]) (t := 42) ?hr ?_; (case hd => rfl); (case hg => rfl); (case hr => first | (go_simp; done) | (go_simp; rfl)); intro gb398 hg w14 hbox hb; have n0_ := Aside0.mk (Kd.R_below (Kd.R_elderB (by (with_reducible repeat (first | apply Kd.R_alloc | apply Kd.R_drewN | apply Kd.R_drew)); exact HO_9.out) gb398 (Nat.le_of_eq hg.symm)) hb); have n1_ := Aside0.mk (blk_below (g := gb396) (o := .cells #[.int .i64 x397000_2, .int .i64 x397001_2] 42 (0, 0)) (by (with_reducible repeat (first | refine blk_drewN ?_ _ | refine blk_drew ?_ | refine blk_alloc ?_ _)); exact BK396.out) hb); have n2_ := Aside0.mk (below_step (by repeat (first | (with_reducible first | exact HB.out | apply below_alloc | apply pw_below_drewN | apply below_drew1 | refine below_set ?_ GE396.out) | exact HB.out)) hb); have n3_ := Aside0.mk (hbox); have n4_ := Aside0.mk ((by rw [hg]; exact (below_size (by repeat (first | (with_reducible first | exact HB.out | apply below_alloc | apply pw_below_drewN | apply below_drew1 | refine below_set ?_ GE396.out) | exact HB.out))) : w.heap.size ≤ gb398)); have n5_ := Aside0.mk ((by rw [hg]; exact (below_size (by repeat (first | (with_reducible first | exact HB.out | apply below_alloc | apply pw_below_drewN | apply below_drew1 | refine below_set ?_ GE396.out) | exact HB.out))) : w.heap.size ≤ gb398)); have n6_ := Aside0.mk ((by rw [hg]; exact Nat.ne_of_lt (blk_lt (g := gb396) (o := .cells #[.int .i64 x397000_2, .int .i64 x397001_2] 42 (0, 0)) (by (with_reducible repeat (first | refine blk_drewN ?_ _ | refine blk_drew ?_ | refine blk_alloc ?_ _)); exact BK396.out)) : gb396 ≠ gb398)); have n7_ := Aside0.mk ((by rw [hg]; exact Nat.ne_of_gt (blk_lt (g := gb396) (o := .cells #[.int .i64 x397000_2, .int .i64 x397001_2] 42 (0, 0)) (by (with_reducible repeat (first | refine blk_drewN ?_ _ | refine blk_drew ?_ | refine blk_alloc ?_ _)); exact BK396.out)) : gb398 ≠ gb396)); clear HO_9; clear BK396; clear HB; have HO_9 := n0_; have BK396 := n1_; have HB := n2_; have BK398 := n3_; have GW398 := n4_; have GE398 := n5_; have NB396_398 := n6_; have NB398_396 := n7_; clear n0_ n1_ n2_ n3_ n4_ n5_ n6_ n7_; clear hb hbox hg; have hnb15 := NB398_396.out; have hnc15 := NB396_398.out; have hcz16_0 : w14.cell? ⟨gb398, 0, none⟩ = some (.int .i64 0) := (blk_cell BK398.out 0).trans rfl; have hcz16_1 : w14.cell? ⟨gb398, 1, none⟩ = some (.int .i64 0) := (blk_cell BK398.out 1).trans rfl; have hfz16_0 := blk_frozen BK398.out 0; have hfz16_1 := blk_frozen BK398.out 1))
                (try simp only [Act.put, List.setIfInBounds_toArray, List.set_cons_zero, List.set_cons_succ])
                go_cut [45] (fun v45 wc => ∃ (kq : Nat) (x45_12 : Bool), v45 = .bool x45_12 ∧ Aside0 (retconref14_Free.j2 kq l0 x9_2 x10_2 x11_2 x45_12 x397000_2 x397001_2 ((rd_T42 l0 x11_2).f0) ((rd_T42 l0 x11_2).f1) = some (r1, r2)) ∧ Aside0 (kq ≤ k2) ∧ Aside0 (Kd.R k42 42 wc w.heap.size (fun k_ => k_ ≠ gb396 ∧ k_ ≠ gb398) u9 x9_2) ∧ Aside0 (wc.heap[gb396]? = some (.cells #[.int .i64 x397000_2, .int .i64 x397001_2] 42 (0, 0))) ∧ Aside0 (wc.heap[gb398]? = some (.cells #[.int .i64 ((rd_T42 l0 x11_2).f0), .int .i64 ((rd_T42 l0 x11_2).f1)] 42 (0, 0))) ∧ Aside0 (Below w.heap.size w wc))
                case first =>
                  have H := HC13.out
                  clear HC13
                  by_cases c17 : ((rd_T42 l0 x11_2).f0) < (wrap64 (x397000_2 + x397001_2))
                  · rw [if_pos c17] at H
                    have c17b0 : decide (((rd_T42 l0 x11_2).f0) < (wrap64 (x397000_2 + x397001_2))) = true := decide_eq_true c17
                    clear c17
                    (first | rw [c17b0] | (simp only [i64_w, i32_w]; rw [c17b0]) | skip)
                    have H' := Aside0.mk H
                    clear H
                    have hnb18 := NB398_396.out
                    have hnc18 := NB396_398.out
                    have hcz19_0 : w14.cell? ⟨gb398, 0, none⟩ = some (.int .i64 0) := (blk_cell BK398.out 0).trans rfl
                    have hcz19_1 : w14.cell? ⟨gb398, 1, none⟩ = some (.int .i64 0) := (blk_cell BK398.out 1).trans rfl
                    have hfz19_0 := blk_frozen BK398.out 0
                    have hfz19_1 := blk_frozen BK398.out 1
                    have hcz20_0 : w14.cell? ⟨gb396, 0, none⟩ = some (.int .i64 x397000_2) := (blk_cell BK396.out 0).trans rfl
                    have hcz20_1 : w14.cell? ⟨gb396, 1, none⟩ = some (.int .i64 x397001_2) := (blk_cell BK396.out 1).trans rfl
                    have hfz20_0 := blk_frozen BK396.out 0
                    have hfz20_1 := blk_frozen BK396.out 1
                    go_wp2
                    go_meet
                    case rel => exact ⟨_, (decide (x397000_2 < (wrap64 (((rd_T42 l0 x11_2).f0) + ((rd_T42 l0 x11_2).f1))))), (by first | rfl | (simp; done) | (simp [*]; done)), H', ⟨by have := HJ3.out; have := HK2.out; first | omega | exact Nat.le_refl _⟩, ⟨by (with_reducible repeat (first | apply Kd.R_alloc | apply Kd.R_drewN | apply Kd.R_drew)); exact Kd.R_mono (Kd.R_far (p := ⟨gb398, 1, none⟩) (Kd.R_far (p := ⟨gb398, 0, none⟩) (Kd.R_mono HO_9.out (fun k_ hk => (⟨hk, hk.2⟩ : _ ∧ k_ ≠ gb398))) (fun _ hk => hk.2) (.int .i64 ((rd_T42 l0 x11_2).f0))) (fun _ hk => hk.2) (.int .i64 ((rd_T42 l0 x11_2).f1))) (fun _ hk => ⟨hk.1.1, hk.1.2⟩)⟩, ⟨by (with_reducible repeat (first | refine blk_drewN ?_ _ | refine blk_drew ?_ | refine blk_alloc ?_ _)); refine blk_far ?_ NB396_398.out _; (with_reducible repeat (first | refine blk_drewN ?_ _ | refine blk_drew ?_ | refine blk_alloc ?_ _)); refine blk_far ?_ NB396_398.out _; (with_reducible repeat (first | refine blk_drewN ?_ _ | refine blk_drew ?_ | refine blk_alloc ?_ _)); exact BK396.out⟩, ⟨by (with_reducible repeat (first | refine blk_drewN ?_ _ | refine blk_drew ?_ | refine blk_alloc ?_ _)); refine blk_put (cs := #[.int .i64 ((rd_T42 l0 x11_2).f0), .int .i64 0]) ?_ 1 _ rfl; (with_reducible repeat (first | refine blk_drewN ?_ _ | refine blk_drew ?_ | refine blk_alloc ?_ _)); refine blk_put (cs := #[.int .i64 0, .int .i64 0]) ?_ 0 _ rfl; (with_reducible repeat (first | refine blk_drewN ?_ _ | refine blk_drew ?_ | refine blk_alloc ?_ _)); exact BK398.out⟩, ⟨by repeat (first | (with_reducible first | exact HB.out | apply below_alloc | apply pw_below_drewN | apply below_drew1 | refine below_set ?_ GE396.out | refine below_set ?_ GE398.out) | exact HB.out)⟩⟩
                  · rw [if_neg c17] at H
                    have c17b0 : decide (((rd_T42 l0 x11_2).f0) < (wrap64 (x397000_2 + x397001_2))) = false := decide_eq_false c17
                    clear c17
                    (first | rw [c17b0] | (simp only [i64_w, i32_w]; rw [c17b0]) | skip)
                    have H' := Aside0.mk H
                    clear H
                    have hnb21 := NB398_396.out
                    have hnc21 := NB396_398.out
                    have hcz22_0 : w14.cell? ⟨gb398, 0, none⟩ = some (.int .i64 0) := (blk_cell BK398.out 0).trans rfl
                    have hcz22_1 : w14.cell? ⟨gb398, 1, none⟩ = some (.int .i64 0) := (blk_cell BK398.out 1).trans rfl
                    have hfz22_0 := blk_frozen BK398.out 0
                    have hfz22_1 := blk_frozen BK398.out 1
                    have hcz23_0 : w14.cell? ⟨gb396, 0, none⟩ = some (.int .i64 x397000_2) := (blk_cell BK396.out 0).trans rfl
                    have hcz23_1 : w14.cell? ⟨gb396, 1, none⟩ = some (.int .i64 x397001_2) := (blk_cell BK396.out 1).trans rfl
                    have hfz23_0 := blk_frozen BK396.out 0
                    have hfz23_1 := blk_frozen BK396.out 1
                    go_wp2
                    go_meet
                    case rel => exact ⟨_, (false), (by first | rfl | (simp; done) | (simp [*]; done)), H', ⟨by have := HJ3.out; have := HK2.out; first | omega | exact Nat.le_refl _⟩, ⟨by (with_reducible repeat (first | apply Kd.R_alloc | apply Kd.R_drewN | apply Kd.R_drew)); exact Kd.R_mono (Kd.R_far (p := ⟨gb398, 1, none⟩) (Kd.R_far (p := ⟨gb398, 0, none⟩) (Kd.R_mono HO_9.out (fun k_ hk => (⟨hk, hk.2⟩ : _ ∧ k_ ≠ gb398))) (fun _ hk => hk.2) (.int .i64 ((rd_T42 l0 x11_2).f0))) (fun _ hk => hk.2) (.int .i64 ((rd_T42 l0 x11_2).f1))) (fun _ hk => ⟨hk.1.1, hk.1.2⟩)⟩, ⟨by (with_reducible repeat (first | refine blk_drewN ?_ _ | refine blk_drew ?_ | refine blk_alloc ?_ _)); refine blk_far ?_ NB396_398.out _; (with_reducible repeat (first | refine blk_drewN ?_ _ | refine blk_drew ?_ | refine blk_alloc ?_ _)); refine blk_far ?_ NB396_398.out _; (with_reducible repeat (first | refine blk_drewN ?_ _ | refine blk_drew ?_ | refine blk_alloc ?_ _)); exact BK396.out⟩, ⟨by (with_reducible repeat (first | refine blk_drewN ?_ _ | refine blk_drew ?_ | refine blk_alloc ?_ _)); refine blk_put (cs := #[.int .i64 ((rd_T42 l0 x11_2).f0), .int .i64 0]) ?_ 1 _ rfl; (with_reducible repeat (first | refine blk_drewN ?_ _ | refine blk_drew ?_ | refine blk_alloc ?_ _)); refine blk_put (cs := #[.int .i64 0, .int .i64 0]) ?_ 0 _ rfl; (with_reducible repeat (first | refine blk_drewN ?_ _ | refine blk_drew ?_ | refine blk_alloc ?_ _)); exact BK398.out⟩, ⟨by repeat (first | (with_reducible first | exact HB.out | apply below_alloc | apply pw_below_drewN | apply below_drew1 | refine below_set ?_ GE396.out | refine below_set ?_ GE398.out) | exact HB.out)⟩⟩
                case rest =>
                  clear HC13
                  try clear c1
                  try clear c2
                  try clear p2
                  try clear p3
                  try clear q3
                  try clear hx3
                  try clear c6
                  try clear c6b0
                  try clear c6b1
                  try clear p6
                  try clear c8
                  try clear c11
                  try clear c11b0
                  try clear c12
                  try clear c12b0
                  try clear c15
                  try clear c16
                  try clear c17
                  try clear c17b0
                  try clear c18
                  try clear c19
                  try clear c21
                  try clear hcz10_0
                  try clear hcz10_1
                  try clear hcz16_0
                  try clear hcz16_1
                  try clear hcz19_0
                  try clear hcz19_1
                  try clear hcz20_0
                  try clear hcz20_1
                  try clear hcz22_0
                  try clear hcz22_1
                  try clear hcz23_0
                  try clear hcz23_1
                  try clear hfz10_0
                  try clear hfz10_1
                  try clear hfz16_0
                  try clear hfz16_1
                  try clear hfz19_0
                  try clear hfz19_1
                  try clear hfz20_0
                  try clear hfz20_1
                  try clear hfz22_0
                  try clear hfz22_1
                  try clear hfz23_0
                  try clear hfz23_1
                  try clear hx397_0
                  try clear hx397_1
                  try clear p2
                  try clear p397
                  try clear q397
                  obtain ⟨kq, x45_12, rfl, HA, HJ12, HO_9, BK396, BK398, HB⟩ := hcut
                  cases kq with
                  | zero => exact absurd HA.out (by simp [retconref14_Free.j2])
                  | succ kj12 =>
                    have H := HA.out
                    clear HA
                    simp only [retconref14_Free.j2] at H
                    by_cases c24 : x45_12 = true
                    · subst c24
                      have H1 : (some (([] : List (S42)), 7)) = some (r1, r2) := by rw [if_pos rfl] at H; exact H
                      clear H
                      have H := H1
                      clear H1
                      simp only [Option.some.injEq, Prod.mk.injEq] at H
                      obtain ⟨rfl, rfl⟩ := H
                      go_wp2
                      go_ret2
                      exact ⟨_, by first | rfl | (simp [errW_none, errW_some] <;> rfl) | (simp [*, errW_none, errW_some] <;> rfl), by first | exact Kd.R_nil _ _ _ _ _ | exact Kd.N_nil _ _ _ _ _ | exact Kd.V_nil _ _ _ _ _ | exact Kd.Q_nil _ _ _ _ _ | exact Kd.S_nil _ _ _ _ _, by repeat (first | (with_reducible first | exact HB.out | apply below_alloc | apply pw_below_drewN | apply below_drew1 | refine below_set ?_ GE396.out | refine below_set ?_ GE398.out) | exact HB.out)⟩
                    · replace c24 := Bool.eq_false_iff.mpr c24
                      subst c24
                      have H1 : (if (wrap64 (((rd_T42 l0 x11_2).f0) + ((rd_T42 l0 x11_2).f1))) = x397000_2 then (retconref14_Free.l0 kj12 l0 x9_2 x10_2 (wrap64 (x11_2 + 1)) ((rd_T42 l0 x11_2).f0) (wrap64 (((rd_T42 l0 x11_2).f1) + x397001_2))) else (if (wrap64 (x397000_2 + x397001_2)) = ((rd_T42 l0 x11_2).f0) then (retconref14_Free.l0 kj12 l0 x9_2 x10_2 (wrap64 (x11_2 + 1)) x397000_2 (wrap64 (x397001_2 + ((rd_T42 l0 x11_2).f1)))) else (if ((rd_T42 l0 x11_2).f0) < x397000_2 then (if x9_2.length < 8796093022208 then (retconref14_Free.l0 kj12 l0 (x9_2 ++ [(⟨((rd_T42 l0 x11_2).f0), ((rd_T42 l0 x11_2).f1)⟩ : S42)]) x10_2 (wrap64 (x11_2 + 1)) x397000_2 x397001_2) else (none)) else (if x10_2 = true then (if x9_2.length < 8796093022208 then (retconref14_Free.l0 kj12 l0 (x9_2 ++ [(⟨((rd_T42 l0 x11_2).f0), ((rd_T42 l0 x11_2).f1)⟩ : S42)]) true (wrap64 (x11_2 + 1)) x397000_2 x397001_2) else (none)) else (if x9_2.length < 8796093022208 then ((some (x9_2 ++ [(⟨x397000_2, x397001_2⟩ : S42)] : List (S42))).bind fun y405 => (if y405.length < 8796093022208 then (retconref14_Free.l0 kj12 l0 (y405 ++ [(⟨((rd_T42 l0 x11_2).f0), ((rd_T42 l0 x11_2).f1)⟩ : S42)]) true (wrap64 (x11_2 + 1)) x397000_2 x397001_2) else (none))) else (none)))))) = some (r1, r2) := by rw [if_neg (show ¬ (false = true) by decide)] at H; exact H
                      clear H
                      have H := H1
                      clear H1
                      by_cases c25 : (wrap64 (((rd_T42 l0 x11_2).f0) + ((rd_T42 l0 x11_2).f1))) = x397000_2
                      · rw [if_pos c25] at H
                        have c25b0 : ((wrap64 (((rd_T42 l0 x11_2).f0) + ((rd_T42 l0 x11_2).f1))) == x397000_2) = true := beq_iff_eq.mpr c25
                        have c25b1 : ((wrap64 (((rd_T42 l0 x11_2).f0) + ((rd_T42 l0 x11_2).f1))) != x397000_2) = false := bne_eq_false_iff_eq.mpr c25
                        clear c25
                        have H' := Aside0.mk H
                        clear H
                        have hnb26 := NB398_396.out
                        have hnc26 := NB396_398.out
                        have hcz27_0 : wc.cell? ⟨gb398, 0, none⟩ = some (.int .i64 ((rd_T42 l0 x11_2).f0)) := (blk_cell BK398.out 0).trans rfl
                        have hcz27_1 : wc.cell? ⟨gb398, 1, none⟩ = some (.int .i64 ((rd_T42 l0 x11_2).f1)) := (blk_cell BK398.out 1).trans rfl
                        have hfz27_0 := blk_frozen BK398.out 0
                        have hfz27_1 := blk_frozen BK398.out 1
                        have hcz28_0 : wc.cell? ⟨gb396, 0, none⟩ = some (.int .i64 x397000_2) := (blk_cell BK396.out 0).trans rfl
                        have hcz28_1 : wc.cell? ⟨gb396, 1, none⟩ = some (.int .i64 x397001_2) := (blk_cell BK396.out 1).trans rfl
                        have hfz28_0 := blk_frozen BK396.out 0
                        have hfz28_1 := blk_frozen BK396.out 1
                        go_wp2
                        go_roundg kj12
                        case measure => have := HJ3.out; have := HK2.out; have := HJ12.out; omega
                        case rel => exact ⟨(x9_2), (x10_2), (wrap64 (x11_2 + 1)), (((rd_T42 l0 x11_2).f0)), (wrap64 (((rd_T42 l0 x11_2).f1) + x397001_2)), (by first | rfl | (simp; done) | (simp [*]; done)), (by first | rfl | (simp; done) | (simp [*]; done)), H', ⟨by have := HJ3.out; have := HK2.out; have := HJ12.out; omega⟩, ⟨by (with_reducible repeat (first | apply Kd.R_alloc | apply Kd.R_drewN | apply Kd.R_drew)); exact Kd.R_mono (Kd.R_far (p := ⟨gb396, 1, none⟩) (Kd.R_far (p := ⟨gb396, 0, none⟩) (Kd.R_mono HO_9.out (fun k_ hk => (⟨hk, hk.1⟩ : _ ∧ k_ ≠ gb396))) (fun _ hk => hk.2) (.int .i64 ((rd_T42 l0 x11_2).f0))) (fun _ hk => hk.2) (.int .i64 (wrap64 (((rd_T42 l0 x11_2).f1) + x397001_2)))) (fun _ hk => hk.1.1)⟩, ⟨by (with_reducible repeat (first | refine blk_drewN ?_ _ | refine blk_drew ?_ | refine blk_alloc ?_ _)); refine blk_put (cs := #[.int .i64 ((rd_T42 l0 x11_2).f0), .int .i64 x397001_2]) ?_ 1 _ rfl; (with_reducible repeat (first | refine blk_drewN ?_ _ | refine blk_drew ?_ | refine blk_alloc ?_ _)); refine blk_put (cs := #[.int .i64 x397000_2, .int .i64 x397001_2]) ?_ 0 _ rfl; (with_reducible repeat (first | refine blk_drewN ?_ _ | refine blk_drew ?_ | refine blk_alloc ?_ _)); exact BK396.out⟩, ⟨by repeat (first | (with_reducible first | exact HB.out | apply below_alloc | apply pw_below_drewN | apply below_drew1 | refine below_set ?_ GE396.out | refine below_set ?_ GE398.out) | exact HB.out)⟩⟩
                      · rw [if_neg c25] at H
                        have c25b0 : ((wrap64 (((rd_T42 l0 x11_2).f0) + ((rd_T42 l0 x11_2).f1))) == x397000_2) = false := beq_eq_false_iff_ne.mpr c25
                        have c25b1 : ((wrap64 (((rd_T42 l0 x11_2).f0) + ((rd_T42 l0 x11_2).f1))) != x397000_2) = true := bne_iff_ne.mpr c25
                        by_cases c29 : (wrap64 (x397000_2 + x397001_2)) = ((rd_T42 l0 x11_2).f0)
                        · rw [if_pos c29] at H
                          have c29b0 : ((wrap64 (x397000_2 + x397001_2)) == ((rd_T42 l0 x11_2).f0)) = true := beq_iff_eq.mpr c29
                          have c29b1 : ((wrap64 (x397000_2 + x397001_2)) != ((rd_T42 l0 x11_2).f0)) = false := bne_eq_false_iff_eq.mpr c29
                          clear c29
                          have H' := Aside0.mk H
                          clear H
                          have hnb30 := NB398_396.out
                          have hnc30 := NB396_398.out
                          have hcz31_0 : wc.cell? ⟨gb398, 0, none⟩ = some (.int .i64 ((rd_T42 l0 x11_2).f0)) := (blk_cell BK398.out 0).trans rfl
                          have hcz31_1 : wc.cell? ⟨gb398, 1, none⟩ = some (.int .i64 ((rd_T42 l0 x11_2).f1)) := (blk_cell BK398.out 1).trans rfl
                          have hfz31_0 := blk_frozen BK398.out 0
                          have hfz31_1 := blk_frozen BK398.out 1
                          have hcz32_0 : wc.cell? ⟨gb396, 0, none⟩ = some (.int .i64 x397000_2) := (blk_cell BK396.out 0).trans rfl
                          have hcz32_1 : wc.cell? ⟨gb396, 1, none⟩ = some (.int .i64 x397001_2) := (blk_cell BK396.out 1).trans rfl
                          have hfz32_0 := blk_frozen BK396.out 0
                          have hfz32_1 := blk_frozen BK396.out 1
                          go_wp2
                          go_roundg kj12
                          case measure => have := HJ3.out; have := HK2.out; have := HJ12.out; omega
                          case rel => exact ⟨(x9_2), (x10_2), (wrap64 (x11_2 + 1)), (x397000_2), (wrap64 (x397001_2 + ((rd_T42 l0 x11_2).f1))), (by first | rfl | (simp; done) | (simp [*]; done)), (by first | rfl | (simp; done) | (simp [*]; done)), H', ⟨by have := HJ3.out; have := HK2.out; have := HJ12.out; omega⟩, ⟨by (with_reducible repeat (first | apply Kd.R_alloc | apply Kd.R_drewN | apply Kd.R_drew)); exact Kd.R_mono (Kd.R_far (p := ⟨gb396, 1, none⟩) (Kd.R_mono HO_9.out (fun k_ hk => (⟨hk, hk.1⟩ : _ ∧ k_ ≠ gb396))) (fun _ hk => hk.2) (.int .i64 (wrap64 (x397001_2 + ((rd_T42 l0 x11_2).f1))))) (fun _ hk => hk.1.1)⟩, ⟨by (with_reducible repeat (first | refine blk_drewN ?_ _ | refine blk_drew ?_ | refine blk_alloc ?_ _)); refine blk_put (cs := #[.int .i64 x397000_2, .int .i64 x397001_2]) ?_ 1 _ rfl; (with_reducible repeat (first | refine blk_drewN ?_ _ | refine blk_drew ?_ | refine blk_alloc ?_ _)); exact BK396.out⟩, ⟨by repeat (first | (with_reducible first | exact HB.out | apply below_alloc | apply pw_below_drewN | apply below_drew1 | refine below_set ?_ GE396.out | refine below_set ?_ GE398.out) | exact HB.out)⟩⟩
                        · rw [if_neg c29] at H
                          have c29b0 : ((wrap64 (x397000_2 + x397001_2)) == ((rd_T42 l0 x11_2).f0)) = false := beq_eq_false_iff_ne.mpr c29
                          have c29b1 : ((wrap64 (x397000_2 + x397001_2)) != ((rd_T42 l0 x11_2).f0)) = true := bne_iff_ne.mpr c29
                          by_cases c33 : ((rd_T42 l0 x11_2).f0) < x397000_2
                          · rw [if_pos c33] at H
                            have c33b0 : decide (((rd_T42 l0 x11_2).f0) < x397000_2) = true := decide_eq_true c33
                            clear c33
                            by_cases c34 : x9_2.length < 8796093022208
                            · rw [if_pos c34] at H
                              have LMc34 := Aside0.mk c34
                              clear c34
                              obtain ⟨y399, hy399⟩ : ∃ y_ : List (S42), y_ = (x9_2 ++ [(⟨((rd_T42 l0 x11_2).f0), ((rd_T42 l0 x11_2).f1)⟩ : S42)]) := ⟨_, rfl⟩
                              replace H : (retconref14_Free.l0 kj12 l0 y399 x10_2 (wrap64 (x11_2 + 1)) x397000_2 x397001_2) = some (r1, r2) := by first | (rw [hy399]; with_reducible exact H) | (have H2_ := (Option.bind_some _ _).symm.trans H; rw [hy399]; with_reducible exact H2_) | (have H2_ := (Option.bind_some _ _).symm.trans H; with_reducible exact H2_) | with_reducible exact H | (rw [hy399]; exact H) | exact H
                              have Ny399 := Aside0.mk hy399
                              clear hy399
                              have H' := Aside0.mk H
                              clear H
                              have hnb35 := NB398_396.out
                              have hnc35 := NB396_398.out
                              have hcz36_0 : wc.cell? ⟨gb398, 0, none⟩ = some (.int .i64 ((rd_T42 l0 x11_2).f0)) := (blk_cell BK398.out 0).trans rfl
                              have hcz36_1 : wc.cell? ⟨gb398, 1, none⟩ = some (.int .i64 ((rd_T42 l0 x11_2).f1)) := (blk_cell BK398.out 1).trans rfl
                              have hfz36_0 := blk_frozen BK398.out 0
                              have hfz36_1 := blk_frozen BK398.out 1
                              have hcz37_0 : wc.cell? ⟨gb396, 0, none⟩ = some (.int .i64 x397000_2) := (blk_cell BK396.out 0).trans rfl
                              have hcz37_1 : wc.cell? ⟨gb396, 1, none⟩ = some (.int .i64 x397001_2) := (blk_cell BK396.out 1).trans rfl
                              have hfz37_0 := blk_frozen BK396.out 0
                              have hfz37_1 := blk_frozen BK396.out 1
                              go_wp2_with (first | ((with_reducible refine gate_builtin (b := .append) (xs := #[.tmp 102, .tmp 104]) rfl ?_); at_builtin; refine Kd.R_append k42 (w0 := w) w.heap.size rfl (.tmp 102) (.tmp 104) 22 42 (.agg #[(.int .i64 0), (.int .i64 0)]) 16 rfl Try.underlying22 info42 rfl (by decide) (by omega) u9 x9_2 (⟨((rd_T42 l0 x11_2).f0), ((rd_T42 l0 x11_2).f1)⟩ : S42) [.int .i64 ((rd_T42 l0 x11_2).f0), .int .i64 ((rd_T42 l0 x11_2).f1)] (fun k_ => k_ ≠ gb396 ∧ k_ ≠ gb398) (fun _ => False) rfl rfl ?aP (fun _ hk => hk.elim) ?aF ?aO ?aB ?aS ?aL ?_; (case aP => exact k42_mkM _ _ _ (⟨((rd_T42 l0 x11_2).f0), ((rd_T42 l0 x11_2).f1)⟩ : S42)); (case aB => exact (by repeat (first | (with_reducible first | exact HB.out | apply below_alloc | apply pw_below_drewN | apply below_drew1 | refine below_set ?_ GE396.out | refine below_set ?_ GE398.out) | exact HB.out))); (case aF => exact (fun k_ hk => ⟨Kd.freshB (g := gb396) (o := .cells #[.int .i64 x397000_2, .int .i64 x397001_2] 42 (0, 0)) (by (with_reducible repeat (first | refine blk_drewN ?_ _ | refine blk_drew ?_ | refine blk_alloc ?_ _)); exact BK396.out) k_ hk, Kd.freshB (g := gb398) (o := .cells #[.int .i64 ((rd_T42 l0 x11_2).f0), .int .i64 ((rd_T42 l0 x11_2).f1)] 42 (0, 0)) (by (with_reducible repeat (first | refine blk_drewN ?_ _ | refine blk_drew ?_ | refine blk_alloc ?_ _)); exact BK398.out) k_ hk⟩)); (case aO => exact (by (with_reducible repeat (first | apply Kd.R_alloc | apply Kd.R_drewN | apply Kd.R_drew)); exact HO_9.out)); (case aS => exact (below_size (by repeat (first | (with_reducible first | exact HB.out | apply below_alloc | apply pw_below_drewN | apply below_drew1 | refine below_set ?_ GE396.out | refine below_set ?_ GE398.out) | exact HB.out)))); (case aL => have := LMc34.out; omega); intro v400 w38 ho hb hg hat; rw [← Ny399.out] at ho; have n0_ := Aside0.mk (blk_grown (g := gb396) (o := .cells #[.int .i64 x397000_2, .int .i64 x397001_2] 42 (0, 0)) (by (with_reducible repeat (first | refine blk_drewN ?_ _ | refine blk_drew ?_ | refine blk_alloc ?_ _)); exact BK396.out) hg (Kd.R_away HO_9.out (fun _ hk => hk.1))); have n1_ := Aside0.mk (blk_grown (g := gb398) (o := .cells #[.int .i64 ((rd_T42 l0 x11_2).f0), .int .i64 ((rd_T42 l0 x11_2).f1)] 42 (0, 0)) (by (with_reducible repeat (first | refine blk_drewN ?_ _ | refine blk_drew ?_ | refine blk_alloc ?_ _)); exact BK398.out) hg (Kd.R_away HO_9.out (fun _ hk => hk.2))); have n2_ := Aside0.mk (hb); have n3_ := Aside0.mk (ho); clear BK396; clear BK398; clear HB; clear HO_9; have BK396 := n0_; have BK398 := n1_; have HB := n2_; have HO401 := n3_; clear n0_ n1_ n2_ n3_; clear ho hb hg hat))
                              go_roundg kj12
                              case measure => have := HJ3.out; have := HK2.out; have := HJ12.out; omega
                              case rel => exact ⟨(y399), (x10_2), (wrap64 (x11_2 + 1)), (x397000_2), (x397001_2), (by first | rfl | (simp; done) | (simp [*]; done)), (by first | rfl | (simp; done) | (simp [*]; done)), H', ⟨by have := HJ3.out; have := HK2.out; have := HJ12.out; omega⟩, ⟨by (with_reducible repeat (first | apply Kd.R_alloc | apply Kd.R_drewN | apply Kd.R_drew)); exact Kd.R_mono HO401.out (fun _ hk => hk.1)⟩, ⟨by (with_reducible repeat (first | refine blk_drewN ?_ _ | refine blk_drew ?_ | refine blk_alloc ?_ _)); exact BK396.out⟩, ⟨by repeat (first | (with_reducible first | exact HB.out | apply below_alloc | apply pw_below_drewN | apply below_drew1 | refine below_set ?_ GE396.out | refine below_set ?_ GE398.out) | exact HB.out)⟩⟩
                            · rw [if_neg c34] at H
                              exact absurd H (by simp)
                          · rw [if_neg c33] at H
                            have c33b0 : decide (((rd_T42 l0 x11_2).f0) < x397000_2) = false := decide_eq_false c33
                            clear c33
                            by_cases c39 : x10_2 = true
                            · subst c39
                              have H1 : (if x9_2.length < 8796093022208 then (retconref14_Free.l0 kj12 l0 (x9_2 ++ [(⟨((rd_T42 l0 x11_2).f0), ((rd_T42 l0 x11_2).f1)⟩ : S42)]) true (wrap64 (x11_2 + 1)) x397000_2 x397001_2) else (none)) = some (r1, r2) := by rw [if_pos rfl] at H; exact H
                              clear H
                              have H := H1
                              clear H1
                              by_cases c40 : x9_2.length < 8796093022208
                              · rw [if_pos c40] at H
                                have LMc40 := Aside0.mk c40
                                clear c40
                                obtain ⟨y402, hy402⟩ : ∃ y_ : List (S42), y_ = (x9_2 ++ [(⟨((rd_T42 l0 x11_2).f0), ((rd_T42 l0 x11_2).f1)⟩ : S42)]) := ⟨_, rfl⟩
                                replace H : (retconref14_Free.l0 kj12 l0 y402 true (wrap64 (x11_2 + 1)) x397000_2 x397001_2) = some (r1, r2) := by first | (rw [hy402]; with_reducible exact H) | (have H2_ := (Option.bind_some _ _).symm.trans H; rw [hy402]; with_reducible exact H2_) | (have H2_ := (Option.bind_some _ _).symm.trans H; with_reducible exact H2_) | with_reducible exact H | (rw [hy402]; exact H) | exact H
                                have Ny402 := Aside0.mk hy402
                                clear hy402
                                have H' := Aside0.mk H
                                clear H
                                have hnb41 := NB398_396.out
                                have hnc41 := NB396_398.out
                                have hcz42_0 : wc.cell? ⟨gb398, 0, none⟩ = some (.int .i64 ((rd_T42 l0 x11_2).f0)) := (blk_cell BK398.out 0).trans rfl
                                have hcz42_1 : wc.cell? ⟨gb398, 1, none⟩ = some (.int .i64 ((rd_T42 l0 x11_2).f1)) := (blk_cell BK398.out 1).trans rfl
                                have hfz42_0 := blk_frozen BK398.out 0
                                have hfz42_1 := blk_frozen BK398.out 1
                                have hcz43_0 : wc.cell? ⟨gb396, 0, none⟩ = some (.int .i64 x397000_2) := (blk_cell BK396.out 0).trans rfl
                                have hcz43_1 : wc.cell? ⟨gb396, 1, none⟩ = some (.int .i64 x397001_2) := (blk_cell BK396.out 1).trans rfl
                                have hfz43_0 := blk_frozen BK396.out 0
                                have hfz43_1 := blk_frozen BK396.out 1
                                go_wp2_with (first | ((with_reducible refine gate_builtin (b := .append) (xs := #[.tmp 41, .tmp 43]) rfl ?_); at_builtin; refine Kd.R_append k42 (w0 := w) w.heap.size rfl (.tmp 41) (.tmp 43) 22 42 (.agg #[(.int .i64 0), (.int .i64 0)]) 16 rfl Try.underlying22 info42 rfl (by decide) (by omega) u9 x9_2 (⟨((rd_T42 l0 x11_2).f0), ((rd_T42 l0 x11_2).f1)⟩ : S42) [.int .i64 ((rd_T42 l0 x11_2).f0), .int .i64 ((rd_T42 l0 x11_2).f1)] (fun k_ => k_ ≠ gb396 ∧ k_ ≠ gb398) (fun _ => False) rfl rfl ?aP (fun _ hk => hk.elim) ?aF ?aO ?aB ?aS ?aL ?_; (case aP => exact k42_mkM _ _ _ (⟨((rd_T42 l0 x11_2).f0), ((rd_T42 l0 x11_2).f1)⟩ : S42)); (case aB => exact (by repeat (first | (with_reducible first | exact HB.out | apply below_alloc | apply pw_below_drewN | apply below_drew1 | refine below_set ?_ GE396.out | refine below_set ?_ GE398.out) | exact HB.out))); (case aF => exact (fun k_ hk => ⟨Kd.freshB (g := gb396) (o := .cells #[.int .i64 x397000_2, .int .i64 x397001_2] 42 (0, 0)) (by (with_reducible repeat (first | refine blk_drewN ?_ _ | refine blk_drew ?_ | refine blk_alloc ?_ _)); exact BK396.out) k_ hk, Kd.freshB (g := gb398) (o := .cells #[.int .i64 ((rd_T42 l0 x11_2).f0), .int .i64 ((rd_T42 l0 x11_2).f1)] 42 (0, 0)) (by (with_reducible repeat (first | refine blk_drewN ?_ _ | refine blk_drew ?_ | refine blk_alloc ?_ _)); exact BK398.out) k_ hk⟩)); (case aO => exact (by (with_reducible repeat (first | apply Kd.R_alloc | apply Kd.R_drewN | apply Kd.R_drew)); exact HO_9.out)); (case aS => exact (below_size (by repeat (first | (with_reducible first | exact HB.out | apply below_alloc | apply pw_below_drewN | apply below_drew1 | refine below_set ?_ GE396.out | refine below_set ?_ GE398.out) | exact HB.out)))); (case aL => have := LMc40.out; omega); intro v403 w44 ho hb hg hat; rw [← Ny402.out] at ho; have n0_ := Aside0.mk (blk_grown (g := gb396) (o := .cells #[.int .i64 x397000_2, .int .i64 x397001_2] 42 (0, 0)) (by (with_reducible repeat (first | refine blk_drewN ?_ _ | refine blk_drew ?_ | refine blk_alloc ?_ _)); exact BK396.out) hg (Kd.R_away HO_9.out (fun _ hk => hk.1))); have n1_ := Aside0.mk (blk_grown (g := gb398) (o := .cells #[.int .i64 ((rd_T42 l0 x11_2).f0), .int .i64 ((rd_T42 l0 x11_2).f1)] 42 (0, 0)) (by (with_reducible repeat (first | refine blk_drewN ?_ _ | refine blk_drew ?_ | refine blk_alloc ?_ _)); exact BK398.out) hg (Kd.R_away HO_9.out (fun _ hk => hk.2))); have n2_ := Aside0.mk (hb); have n3_ := Aside0.mk (ho); clear BK396; clear BK398; clear HB; clear HO_9; have BK396 := n0_; have BK398 := n1_; have HB := n2_; have HO404 := n3_; clear n0_ n1_ n2_ n3_; clear ho hb hg hat))
                                go_roundg kj12
                                case measure => have := HJ3.out; have := HK2.out; have := HJ12.out; omega
                                case rel => exact ⟨(y402), (true), (wrap64 (x11_2 + 1)), (x397000_2), (x397001_2), (by first | rfl | (simp; done) | (simp [*]; done)), (by first | rfl | (simp; done) | (simp [*]; done)), H', ⟨by have := HJ3.out; have := HK2.out; have := HJ12.out; omega⟩, ⟨by (with_reducible repeat (first | apply Kd.R_alloc | apply Kd.R_drewN | apply Kd.R_drew)); exact Kd.R_mono HO404.out (fun _ hk => hk.1)⟩, ⟨by (with_reducible repeat (first | refine blk_drewN ?_ _ | refine blk_drew ?_ | refine blk_alloc ?_ _)); exact BK396.out⟩, ⟨by repeat (first | (with_reducible first | exact HB.out | apply below_alloc | apply pw_below_drewN | apply below_drew1 | refine below_set ?_ GE396.out | refine below_set ?_ GE398.out) | exact HB.out)⟩⟩
                              · rw [if_neg c40] at H
                                exact absurd H (by simp)
                            · replace c39 := Bool.eq_false_iff.mpr c39
                              subst c39
                              have H1 : (if x9_2.length < 8796093022208 then ((some (x9_2 ++ [(⟨x397000_2, x397001_2⟩ : S42)] : List (S42))).bind fun y405 => (if y405.length < 8796093022208 then (retconref14_Free.l0 kj12 l0 (y405 ++ [(⟨((rd_T42 l0 x11_2).f0), ((rd_T42 l0 x11_2).f1)⟩ : S42)]) true (wrap64 (x11_2 + 1)) x397000_2 x397001_2) else (none))) else (none)) = some (r1, r2) := by rw [if_neg (show ¬ (false = true) by decide)] at H; exact H
                              clear H
                              have H := H1
                              clear H1
                              by_cases c45 : x9_2.length < 8796093022208
                              · rw [if_pos c45] at H
                                have LMc45 := Aside0.mk c45
                                clear c45
                                obtain ⟨y405, hy405⟩ : ∃ y_ : List (S42), y_ = (x9_2 ++ [(⟨x397000_2, x397001_2⟩ : S42)]) := ⟨_, rfl⟩
                                replace H : (if y405.length < 8796093022208 then (retconref14_Free.l0 kj12 l0 (y405 ++ [(⟨((rd_T42 l0 x11_2).f0), ((rd_T42 l0 x11_2).f1)⟩ : S42)]) true (wrap64 (x11_2 + 1)) x397000_2 x397001_2) else (none)) = some (r1, r2) := by first | (rw [hy405]; with_reducible exact H) | (have H2_ := (Option.bind_some _ _).symm.trans H; rw [hy405]; with_reducible exact H2_) | (have H2_ := (Option.bind_some _ _).symm.trans H; with_reducible exact H2_) | with_reducible exact H | (rw [hy405]; exact H) | exact H
                                have Ny405 := Aside0.mk hy405
                                clear hy405
                                by_cases c46 : y405.length < 8796093022208
                                · rw [if_pos c46] at H
                                  have LMc46 := Aside0.mk c46
                                  clear c46
                                  obtain ⟨y408, hy408⟩ : ∃ y_ : List (S42), y_ = (y405 ++ [(⟨((rd_T42 l0 x11_2).f0), ((rd_T42 l0 x11_2).f1)⟩ : S42)]) := ⟨_, rfl⟩
                                  replace H : (retconref14_Free.l0 kj12 l0 y408 true (wrap64 (x11_2 + 1)) x397000_2 x397001_2) = some (r1, r2) := by first | (rw [hy408]; with_reducible exact H) | (have H2_ := (Option.bind_some _ _).symm.trans H; rw [hy408]; with_reducible exact H2_) | (have H2_ := (Option.bind_some _ _).symm.trans H; with_reducible exact H2_) | with_reducible exact H | (rw [hy408]; exact H) | exact H
                                  have Ny408 := Aside0.mk hy408
                                  clear hy408
                                  have H' := Aside0.mk H
                                  clear H
                                  have hnb47 := NB398_396.out
                                  have hnc47 := NB396_398.out
                                  have hcz48_0 : wc.cell? ⟨gb398, 0, none⟩ = some (.int .i64 ((rd_T42 l0 x11_2).f0)) := (blk_cell BK398.out 0).trans rfl
                                  have hcz48_1 : wc.cell? ⟨gb398, 1, none⟩ = some (.int .i64 ((rd_T42 l0 x11_2).f1)) := (blk_cell BK398.out 1).trans rfl
                                  have hfz48_0 := blk_frozen BK398.out 0
                                  have hfz48_1 := blk_frozen BK398.out 1
                                  have hcz49_0 : wc.cell? ⟨gb396, 0, none⟩ = some (.int .i64 x397000_2) := (blk_cell BK396.out 0).trans rfl
                                  have hcz49_1 : wc.cell? ⟨gb396, 1, none⟩ = some (.int .i64 x397001_2) := (blk_cell BK396.out 1).trans rfl
                                  have hfz49_0 := blk_frozen BK396.out 0
                                  have hfz49_1 := blk_frozen BK396.out 1
                                  go_wp2_with (first | ((with_reducible refine gate_builtin (b := .append) (xs := #[.tmp 37, .tmp 39]) rfl ?_); at_builtin; refine Kd.R_append k42 (w0 := w) w.heap.size rfl (.tmp 37) (.tmp 39) 22 42 (.agg #[(.int .i64 0), (.int .i64 0)]) 16 rfl Try.underlying22 info42 rfl (by decide) (by omega) u9 x9_2 (⟨x397000_2, x397001_2⟩ : S42) [.int .i64 x397000_2, .int .i64 x397001_2] (fun k_ => k_ ≠ gb396 ∧ k_ ≠ gb398) (fun _ => False) rfl rfl ?aP (fun _ hk => hk.elim) ?aF ?aO ?aB ?aS ?aL ?_; (case aP => exact k42_mkM _ _ _ (⟨x397000_2, x397001_2⟩ : S42)); (case aB => exact (by repeat (first | (with_reducible first | exact HB.out | apply below_alloc | apply pw_below_drewN | apply below_drew1 | refine below_set ?_ GE396.out | refine below_set ?_ GE398.out) | exact HB.out))); (case aF => exact (fun k_ hk => ⟨Kd.freshB (g := gb396) (o := .cells #[.int .i64 x397000_2, .int .i64 x397001_2] 42 (0, 0)) (by (with_reducible repeat (first | refine blk_drewN ?_ _ | refine blk_drew ?_ | refine blk_alloc ?_ _)); exact BK396.out) k_ hk, Kd.freshB (g := gb398) (o := .cells #[.int .i64 ((rd_T42 l0 x11_2).f0), .int .i64 ((rd_T42 l0 x11_2).f1)] 42 (0, 0)) (by (with_reducible repeat (first | refine blk_drewN ?_ _ | refine blk_drew ?_ | refine blk_alloc ?_ _)); exact BK398.out) k_ hk⟩)); (case aO => exact (by (with_reducible repeat (first | apply Kd.R_alloc | apply Kd.R_drewN | apply Kd.R_drew)); exact HO_9.out)); (case aS => exact (below_size (by repeat (first | (with_reducible first | exact HB.out | apply below_alloc | apply pw_below_drewN | apply below_drew1 | refine below_set ?_ GE396.out | refine below_set ?_ GE398.out) | exact HB.out)))); (case aL => have := LMc45.out; omega); intro v406 w50 ho hb hg hat; rw [← Ny405.out] at ho; have n0_ := Aside0.mk (blk_grown (g := gb396) (o := .cells #[.int .i64 x397000_2, .int .i64 x397001_2] 42 (0, 0)) (by (with_reducible repeat (first | refine blk_drewN ?_ _ | refine blk_drew ?_ | refine blk_alloc ?_ _)); exact BK396.out) hg (Kd.R_away HO_9.out (fun _ hk => hk.1))); have n1_ := Aside0.mk (blk_grown (g := gb398) (o := .cells #[.int .i64 ((rd_T42 l0 x11_2).f0), .int .i64 ((rd_T42 l0 x11_2).f1)] 42 (0, 0)) (by (with_reducible repeat (first | refine blk_drewN ?_ _ | refine blk_drew ?_ | refine blk_alloc ?_ _)); exact BK398.out) hg (Kd.R_away HO_9.out (fun _ hk => hk.2))); have n2_ := Aside0.mk (hb); have n3_ := Aside0.mk (ho); clear BK396; clear BK398; clear HB; clear HO_9; have BK396 := n0_; have BK398 := n1_; have HB := n2_; have HO407 := n3_; clear n0_ n1_ n2_ n3_; clear ho hb hg hat; have hcz51_0 : w50.cell? ⟨gb398, 0, none⟩ = some (.int .i64 ((rd_T42 l0 x11_2).f0)) := (blk_cell BK398.out 0).trans rfl; have hcz51_1 : w50.cell? ⟨gb398, 1, none⟩ = some (.int .i64 ((rd_T42 l0 x11_2).f1)) := (blk_cell BK398.out 1).trans rfl; have hfz51_0 := blk_frozen BK398.out 0; have hfz51_1 := blk_frozen BK398.out 1) | ((with_reducible refine gate_builtin (b := .append) (xs := #[.tmp 41, .tmp 43]) rfl ?_); at_builtin; refine Kd.R_append k42 (w0 := w) w.heap.size rfl (.tmp 41) (.tmp 43) 22 42 (.agg #[(.int .i64 0), (.int .i64 0)]) 16 rfl Try.underlying22 info42 rfl (by decide) (by omega) v406 y405 (⟨((rd_T42 l0 x11_2).f0), ((rd_T42 l0 x11_2).f1)⟩ : S42) [.int .i64 ((rd_T42 l0 x11_2).f0), .int .i64 ((rd_T42 l0 x11_2).f1)] (fun k_ => k_ ≠ gb396 ∧ k_ ≠ gb398) (fun _ => False) rfl rfl ?aP (fun _ hk => hk.elim) ?aF ?aO ?aB ?aS ?aL ?_; (case aP => exact k42_mkM _ _ _ (⟨((rd_T42 l0 x11_2).f0), ((rd_T42 l0 x11_2).f1)⟩ : S42)); (case aB => exact (by repeat (first | (with_reducible first | exact HB.out | apply below_alloc | apply pw_below_drewN | apply below_drew1 | refine below_set ?_ GE396.out | refine below_set ?_ GE398.out) | exact HB.out))); (case aF => exact (fun k_ hk => ⟨Kd.freshB (g := gb396) (o := .cells #[.int .i64 x397000_2, .int .i64 x397001_2] 42 (0, 0)) (by (with_reducible repeat (first | refine blk_drewN ?_ _ | refine blk_drew ?_ | refine blk_alloc ?_ _)); exact BK396.out) k_ hk, Kd.freshB (g := gb398) (o := .cells #[.int .i64 ((rd_T42 l0 x11_2).f0), .int .i64 ((rd_T42 l0 x11_2).f1)] 42 (0, 0)) (by (with_reducible repeat (first | refine blk_drewN ?_ _ | refine blk_drew ?_ | refine blk_alloc ?_ _)); exact BK398.out) k_ hk⟩)); (case aO => exact (by (with_reducible repeat (first | apply Kd.R_alloc | apply Kd.R_drewN | apply Kd.R_drew)); exact HO407.out)); (case aS => exact (below_size (by repeat (first | (with_reducible first | exact HB.out | apply below_alloc | apply pw_below_drewN | apply below_drew1 | refine below_set ?_ GE396.out | refine below_set ?_ GE398.out) | exact HB.out)))); (case aL => have := LMc46.out; omega); intro v409 w52 ho hb hg hat; rw [← Ny408.out] at ho; have n0_ := Aside0.mk (blk_grown (g := gb396) (o := .cells #[.int .i64 x397000_2, .int .i64 x397001_2] 42 (0, 0)) (by (with_reducible repeat (first | refine blk_drewN ?_ _ | refine blk_drew ?_ | refine blk_alloc ?_ _)); exact BK396.out) hg (Kd.R_away HO407.out (fun _ hk => hk.1))); have n1_ := Aside0.mk (blk_grown (g := gb398) (o := .cells #[.int .i64 ((rd_T42 l0 x11_2).f0), .int .i64 ((rd_T42 l0 x11_2).f1)] 42 (0, 0)) (by (with_reducible repeat (first | refine blk_drewN ?_ _ | refine blk_drew ?_ | refine blk_alloc ?_ _)); exact BK398.out) hg (Kd.R_away HO407.out (fun _ hk => hk.2))); have n2_ := Aside0.mk (hb); have n3_ := Aside0.mk (ho); clear BK396; clear BK398; clear HB; clear HO407; have BK396 := n0_; have BK398 := n1_; have HB := n2_; have HO410 := n3_; clear n0_ n1_ n2_ n3_; clear ho hb hg hat))
                                  go_roundg kj12
                                  case measure => have := HJ3.out; have := HK2.out; have := HJ12.out; omega
                                  case rel => exact ⟨(y408), (true), (wrap64 (x11_2 + 1)), (x397000_2), (x397001_2), (by first | rfl | (simp; done) | (simp [*]; done)), (by first | rfl | (simp; done) | (simp [*]; done)), H', ⟨by have := HJ3.out; have := HK2.out; have := HJ12.out; omega⟩, ⟨by (with_reducible repeat (first | apply Kd.R_alloc | apply Kd.R_drewN | apply Kd.R_drew)); exact Kd.R_mono HO410.out (fun _ hk => hk.1)⟩, ⟨by (with_reducible repeat (first | refine blk_drewN ?_ _ | refine blk_drew ?_ | refine blk_alloc ?_ _)); exact BK396.out⟩, ⟨by repeat (first | (with_reducible first | exact HB.out | apply below_alloc | apply pw_below_drewN | apply below_drew1 | refine below_set ?_ GE396.out | refine below_set ?_ GE398.out) | exact HB.out)⟩⟩
                                · rw [if_neg c46] at H
                                  exact absurd H (by simp)
                              · rw [if_neg c45] at H
                                exact absurd H (by simp)
              · rw [if_neg c12] at H
                exact absurd H (by simp)
            · rw [if_neg c11] at H
              have c11b0 : decide (x11_2 < (l0.length : Int)) = false := decide_eq_false c11
              clear c11
              by_cases c53 : x10_2 = true
              · subst c53
                have H1 : (some (x9_2, 0)) = some (r1, r2) := by rw [if_pos rfl] at H; exact H
                clear H
                have H := H1
                clear H1
                simp only [Option.some.injEq, Prod.mk.injEq] at H
                obtain ⟨rfl, rfl⟩ := H
                go_wp2
                go_ret2
                exact ⟨_, by first | rfl | (simp [errW_none, errW_some] <;> rfl) | (simp [*, errW_none, errW_some] <;> rfl), by (with_reducible repeat (first | apply Kd.R_alloc | apply Kd.R_drewN | apply Kd.R_drew)); exact Kd.R_mono HO_9.out (fun _ hk => trivial), by repeat (first | (with_reducible first | exact HB.out | apply below_alloc | apply pw_below_drewN | apply below_drew1 | refine below_set ?_ GE396.out) | exact HB.out)⟩
              · replace c53 := Bool.eq_false_iff.mpr c53
                subst c53
                have H1 : (if x9_2.length < 8796093022208 then (some ((x9_2 ++ [(⟨x397000_2, x397001_2⟩ : S42)]), 0)) else (none)) = some (r1, r2) := by rw [if_neg (show ¬ (false = true) by decide)] at H; exact H
                clear H
                have H := H1
                clear H1
                by_cases c54 : x9_2.length < 8796093022208
                · rw [if_pos c54] at H
                  have LMc54 := Aside0.mk c54
                  clear c54
                  obtain ⟨y411, hy411⟩ : ∃ y_ : List (S42), y_ = (x9_2 ++ [(⟨x397000_2, x397001_2⟩ : S42)]) := ⟨_, rfl⟩
                  replace H : (some (y411, 0)) = some (r1, r2) := by first | (rw [hy411]; with_reducible exact H) | (have H2_ := (Option.bind_some _ _).symm.trans H; rw [hy411]; with_reducible exact H2_) | (have H2_ := (Option.bind_some _ _).symm.trans H; with_reducible exact H2_) | with_reducible exact H | (rw [hy411]; exact H) | exact H
                  have Ny411 := Aside0.mk hy411
                  clear hy411
                  simp only [Option.some.injEq, Prod.mk.injEq] at H
                  obtain ⟨rfl, rfl⟩ := H
                  have hcz55_0 : wr.cell? ⟨gb396, 0, none⟩ = some (.int .i64 x397000_2) := (blk_cell BK396.out 0).trans rfl
                  have hcz55_1 : wr.cell? ⟨gb396, 1, none⟩ = some (.int .i64 x397001_2) := (blk_cell BK396.out 1).trans rfl
                  have hfz55_0 := blk_frozen BK396.out 0
                  have hfz55_1 := blk_frozen BK396.out 1
                  go_wp2_with (first | ((with_reducible refine gate_builtin (b := .append) (xs := #[.tmp 108, .tmp 110]) rfl ?_); at_builtin; refine Kd.R_append k42 (w0 := w) w.heap.size rfl (.tmp 108) (.tmp 110) 22 42 (.agg #[(.int .i64 0), (.int .i64 0)]) 16 rfl Try.underlying22 info42 rfl (by decide) (by omega) u9 x9_2 (⟨x397000_2, x397001_2⟩ : S42) [.int .i64 x397000_2, .int .i64 x397001_2] (fun k_ => k_ ≠ gb396) (fun _ => False) rfl rfl ?aP (fun _ hk => hk.elim) ?aF ?aO ?aB ?aS ?aL ?_; (case aP => exact k42_mkM _ _ _ (⟨x397000_2, x397001_2⟩ : S42)); (case aB => exact (by repeat (first | (with_reducible first | exact HB.out | apply below_alloc | apply pw_below_drewN | apply below_drew1 | refine below_set ?_ GE396.out) | exact HB.out))); (case aF => exact (fun k_ hk => Kd.freshB (g := gb396) (o := .cells #[.int .i64 x397000_2, .int .i64 x397001_2] 42 (0, 0)) (by (with_reducible repeat (first | refine blk_drewN ?_ _ | refine blk_drew ?_ | refine blk_alloc ?_ _)); exact BK396.out) k_ hk)); (case aO => exact (by (with_reducible repeat (first | apply Kd.R_alloc | apply Kd.R_drewN | apply Kd.R_drew)); exact HO_9.out)); (case aS => exact (below_size (by repeat (first | (with_reducible first | exact HB.out | apply below_alloc | apply pw_below_drewN | apply below_drew1 | refine below_set ?_ GE396.out) | exact HB.out)))); (case aL => have := LMc54.out; omega); intro v412 w56 ho hb hg hat; rw [← Ny411.out] at ho; have n0_ := Aside0.mk (blk_grown (g := gb396) (o := .cells #[.int .i64 x397000_2, .int .i64 x397001_2] 42 (0, 0)) (by (with_reducible repeat (first | refine blk_drewN ?_ _ | refine blk_drew ?_ | refine blk_alloc ?_ _)); exact BK396.out) hg (Kd.R_away HO_9.out (fun _ hk => hk))); have n1_ := Aside0.mk (hb); have n2_ := Aside0.mk (ho); clear BK396; clear HB; clear HO_9; have BK396 := n0_; have HB := n1_; have HO413 := n2_; clear n0_ n1_ n2_; clear ho hb hg hat))
                  go_ret2
                  exact ⟨_, by first | rfl | (simp [errW_none, errW_some] <;> rfl) | (simp [*, errW_none, errW_some] <;> rfl), by (with_reducible repeat (first | apply Kd.R_alloc | apply Kd.R_drewN | apply Kd.R_drew)); exact Kd.R_mono HO413.out (fun _ hk => trivial), by repeat (first | (with_reducible first | exact HB.out | apply below_alloc | apply pw_below_drewN | apply below_drew1 | refine below_set ?_ GE396.out) | exact HB.out)⟩
                · rw [if_neg c54] at H
                  exact absurd H (by simp)

end Go.Proofs.Ytobleaodacnpiaa.XE
