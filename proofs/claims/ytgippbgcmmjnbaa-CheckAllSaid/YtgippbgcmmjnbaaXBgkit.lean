-- Printed by xprint.py (a program of this work, over the kit's print.py). Lean checks it.
import Derived.Test.YtgippbgcmmjnbaaXB0
import Derived.Test.YtgippbgcmmjnbaaXB1
import Derived.Test.YtgippbgcmmjnbaaXBL
import Derived.Deep.MidRow
namespace Go.Proofs.Ytgippbgcmmjnbaa.XB
open Go.RowKit Go.Proofs.YtgippbgcmmjnbaaW.PrintWords Go.Proofs.YtgippbgcmmjnbaaW.PrintLast Go.Proofs.YtgippbgcmmjnbaaW.PrintMore
attribute [local go_sem] max2_int min2_int max_two min_two max_three min_three max_four min_four   -- for this text's walks alone
set_option linter.unusedVariables false
set_option linter.unusedSimpArgs false
attribute [local go_sem high] eqA27
attribute [local go_sem ↓ high] ld27
attribute [local go_sem high] LD27.new
/-! ### retconkit_CopyMarks: function 8 -/
def retconkit_CopyMarks.f (l0 : List (S27)) : Option ((List (S27))) := (some (([] : List (S27)) : List (S27))).bind fun y101 => (if y101.length + l0.length < 3518437208883 then (some (y101 ++ l0)) else (none))
set_option maxHeartbeats 8000000 in
set_option maxRecDepth 100000 in
theorem retconkit_CopyMarks.calls (A0 : Option Addr) (c0 : Nat) (l0 : List (S27)) (r : List (S27)) (w : World) (hr0 : Kd.C k27 w A0 l0.length l0) (hc0 : l0.length ≤ c0) (h : retconkit_CopyMarks.f l0 = some r) :
    Calls Try.prog 8 #[.slice A0 l0.length c0] w fun e w' => ∃ v0_ : Value, e = .returned (v0_) ∧ Kd.R k27 27 w' w.heap.size (fun _ => True) v0_ r ∧ Below w.heap.size w w' := by
  have HR0 := Aside0.mk hr0
  have HC0 := Aside0.mk hc0
  clear hr0 hc0
  have HB := Aside0.mk (Below.refl w.heap.size w)
  have H : ((some (([] : List (S27)) : List (S27))).bind fun y101 => (if y101.length + l0.length < 3518437208883 then (some (y101 ++ l0)) else (none))) = some r := h
  clear h
  obtain ⟨y101, hy101⟩ : ∃ y_ : List (S27), y_ = (([] : List (S27))) := ⟨_, rfl⟩
  replace H : (if y101.length + l0.length < 3518437208883 then (some (y101 ++ l0)) else (none)) = some r := by first | (rw [hy101]; with_reducible exact H) | (have H2_ := (Option.bind_some _ _).symm.trans H; rw [hy101]; with_reducible exact H2_) | (have H2_ := (Option.bind_some _ _).symm.trans H; with_reducible exact H2_) | with_reducible exact H | (rw [hy101]; exact H) | exact H
  have Ny101 := Aside0.mk hy101
  clear hy101
  by_cases c2 : y101.length + l0.length < 3518437208883
  · rw [if_pos c2] at H
    have LMc2 := Aside0.mk c2
    clear c2
    obtain ⟨y104, hy104⟩ : ∃ y_ : List (S27), y_ = (y101 ++ l0) := ⟨_, rfl⟩
    replace H : (some y104) = some r := by first | (rw [hy104]; with_reducible exact H) | (have H2_ := (Option.bind_some _ _).symm.trans H; rw [hy104]; with_reducible exact H2_) | (have H2_ := (Option.bind_some _ _).symm.trans H; with_reducible exact H2_) | with_reducible exact H | (rw [hy104]; exact H) | exact H
    have Ny104 := Aside0.mk hy104
    clear hy104
    obtain rfl := Option.some.inj H
    go_enter Try.func8, Try.ntmps8
    go_wp2_with (first | ((with_reducible refine gate_dst (N := 3) rfl ?_); refine Kd.R_lit k27 _ 27 ?hg (N := 3) ?hd (xs := ([] : List (S27))) (inner := []) (ok := fun _ => True) (okp := fun _ => True) ?hr ?hp (fun _ hk => hk) trivial (Below.refl _ _) (Nat.le_refl _) (by simp) ?_; (case hd => rfl); (case hg => rfl); (case hr => first | (go_simp; done) | (go_simp; rfl)); (case hp => exact (Reps.none _ _)); intro v102 w3 ho4 hb hg_ hnew_; clear hg_ hnew_; (first | rw [← Ny101.out] at ho4 | (simp only [Int.reduceToNat] at ho4; rw [← Ny101.out] at ho4)); have n0_ := Aside0.mk (Kd.R_lower ho4 (below_size (by repeat (first | (with_reducible first | exact HB.out | apply below_alloc | apply pw_below_drewN | apply below_drew1) | exact HB.out)))); have n1_ := Aside0.mk (below_step (by repeat (first | (with_reducible first | exact HB.out | apply below_alloc | apply pw_below_drewN | apply below_drew1) | exact HB.out)) hb); clear HB; have HO103 := n0_; have HB := n1_; clear n0_ n1_; clear hb ho4) | ((with_reducible refine gate_builtin (b := .append) (xs := #[.tmp 3, .tmp 4]) rfl ?_); at_builtin; refine Kd.R_append_rows k27 (w0 := w) w.heap.size rfl (.tmp 3) (.tmp 4) 22 27 (.agg ((.int .i64 0) :: (.int .u8 0) :: (.int .u8 0) :: (.int .u8 0) :: (.int .u8 0) :: (.int .u8 0) :: (.int .u8 0) :: (.int .u8 0) :: (.int .u8 0) :: (.int .u8 0) :: (.int .u8 0) :: (.int .u8 0) :: (.int .u8 0) :: (.int .u8 0) :: (.int .u8 0) :: (.int .u8 0) :: (.int .u8 0) :: (.int .u8 0) :: (.int .u8 0) :: (.int .u8 0) :: (.int .u8 0) :: (.int .u8 0) :: (.int .u8 0) :: (.int .u8 0) :: (.int .u8 0) :: (.int .u8 0) :: (.int .u8 0) :: (.int .u8 0) :: (.int .u8 0) :: (.int .u8 0) :: (.int .u8 0) :: (.int .u8 0) :: (.int .u8 0) :: []).toArray) 40 rfl Try.underlying22 info27 rfl (by decide) (by omega) v102 y101 l0 _ _ _ (fun _ => True) (fun _ => False) rfl rfl ?aO ?aR (fun _ _ h => h) (fun _ h => h.elim) ?aF ?aB ?aS ?aL ?_; (case aR => repeat (first | exact (Kd.C_below HR0.out HB.out) | (with_reducible refine Kd.C_alloc ?_ _) | (with_reducible refine Kd.C_drewN ?_ _) | (with_reducible refine Kd.C_drew ?_))); (case aB => exact (by repeat (first | (with_reducible first | exact HB.out | apply below_alloc | apply pw_below_drewN | apply below_drew1) | exact HB.out))); (case aF => exact (fun _ _ => trivial)); (case aO => exact (by (with_reducible repeat (first | apply Kd.R_alloc | apply Kd.R_drewN | apply Kd.R_drew)); exact HO103.out)); (case aS => exact (below_size (by repeat (first | (with_reducible first | exact HB.out | apply below_alloc | apply pw_below_drewN | apply below_drew1) | exact HB.out)))); (case aL => have := LMc2.out; omega); intro v105 w5 ho hb hg hat; rw [← Ny104.out] at ho; have n0_ := Aside0.mk (hb); have n1_ := Aside0.mk (ho); clear HB; clear HO103; have HB := n0_; have HO106 := n1_; clear n0_ n1_; clear ho hb hg hat))
    go_ret
    exact ⟨_, by first | rfl | (simp [errW_none, errW_some] <;> rfl) | (simp [*, errW_none, errW_some] <;> rfl), by (with_reducible repeat (first | apply Kd.R_alloc | apply Kd.R_drewN | apply Kd.R_drew)); exact HO106.out, by repeat (first | (with_reducible first | exact HB.out | apply below_alloc | apply pw_below_drewN | apply below_drew1) | exact HB.out)⟩
  · rw [if_neg c2] at H
    exact absurd H (by simp)

/-! ### retconkit_SameMarks: function 12 -/
def retconkit_SameMarks.l0 : Nat → List (S27) → List (S27) → Int → Option (Bool)
  | 0, _, _, _ => none
  | k + 1, x0, x1, x5 => if x5 < (x0.length : Int) then (if 0 ≤ x5 then (if x5 < (x1.length : Int) then (if (!(((rd_T27 x0 x5).f0) == ((rd_T27 x1 x5).f0)) || ((!(((rd_T27 x0 x5).f1.f0) == ((rd_T27 x1 x5).f1.f0)) || (!(((rd_T27 x0 x5).f1.f1) == ((rd_T27 x1 x5).f1.f1)) || (!(((rd_T27 x0 x5).f1.f2) == ((rd_T27 x1 x5).f1.f2)) || (!(((rd_T27 x0 x5).f1.f3) == ((rd_T27 x1 x5).f1.f3)) || (!(((rd_T27 x0 x5).f1.f4) == ((rd_T27 x1 x5).f1.f4)) || (!(((rd_T27 x0 x5).f1.f5) == ((rd_T27 x1 x5).f1.f5)) || (!(((rd_T27 x0 x5).f1.f6) == ((rd_T27 x1 x5).f1.f6)) || (!(((rd_T27 x0 x5).f1.f7) == ((rd_T27 x1 x5).f1.f7)) || (!(((rd_T27 x0 x5).f1.f8) == ((rd_T27 x1 x5).f1.f8)) || (!(((rd_T27 x0 x5).f1.f9) == ((rd_T27 x1 x5).f1.f9)) || (!(((rd_T27 x0 x5).f1.f10) == ((rd_T27 x1 x5).f1.f10)) || (!(((rd_T27 x0 x5).f1.f11) == ((rd_T27 x1 x5).f1.f11)) || (!(((rd_T27 x0 x5).f1.f12) == ((rd_T27 x1 x5).f1.f12)) || (!(((rd_T27 x0 x5).f1.f13) == ((rd_T27 x1 x5).f1.f13)) || (!(((rd_T27 x0 x5).f1.f14) == ((rd_T27 x1 x5).f1.f14)) || (!(((rd_T27 x0 x5).f1.f15) == ((rd_T27 x1 x5).f1.f15)) || (!(((rd_T27 x0 x5).f1.f16) == ((rd_T27 x1 x5).f1.f16)) || (!(((rd_T27 x0 x5).f1.f17) == ((rd_T27 x1 x5).f1.f17)) || (!(((rd_T27 x0 x5).f1.f18) == ((rd_T27 x1 x5).f1.f18)) || (!(((rd_T27 x0 x5).f1.f19) == ((rd_T27 x1 x5).f1.f19)) || (!(((rd_T27 x0 x5).f1.f20) == ((rd_T27 x1 x5).f1.f20)) || (!(((rd_T27 x0 x5).f1.f21) == ((rd_T27 x1 x5).f1.f21)) || (!(((rd_T27 x0 x5).f1.f22) == ((rd_T27 x1 x5).f1.f22)) || (!(((rd_T27 x0 x5).f1.f23) == ((rd_T27 x1 x5).f1.f23)) || (!(((rd_T27 x0 x5).f1.f24) == ((rd_T27 x1 x5).f1.f24)) || (!(((rd_T27 x0 x5).f1.f25) == ((rd_T27 x1 x5).f1.f25)) || (!(((rd_T27 x0 x5).f1.f26) == ((rd_T27 x1 x5).f1.f26)) || (!(((rd_T27 x0 x5).f1.f27) == ((rd_T27 x1 x5).f1.f27)) || (!(((rd_T27 x0 x5).f1.f28) == ((rd_T27 x1 x5).f1.f28)) || (!(((rd_T27 x0 x5).f1.f29) == ((rd_T27 x1 x5).f1.f29)) || (!(((rd_T27 x0 x5).f1.f30) == ((rd_T27 x1 x5).f1.f30)) || (!(((rd_T27 x0 x5).f1.f31) == ((rd_T27 x1 x5).f1.f31)))))))))))))))))))))))))))))))))))) = true then (some false) else (retconkit_SameMarks.l0 k x0 x1 (wrap64 (x5 + 1)))) else (none)) else (none)) else (some true)
def retconkit_SameMarks.f (k : Nat) (l0 : List (S27)) (l1 : List (S27)) : Option (Bool) := if (l0.length : Int) = (l1.length : Int) then (retconkit_SameMarks.l0 k l0 l1 0) else (some false)
theorem retconkit_SameMarks.mono_l : ∀ k, (∀ y0 y1 y2, LeO (retconkit_SameMarks.l0 k y0 y1 y2) (retconkit_SameMarks.l0 (k + 1) y0 y1 y2))
  | 0 => fun _ _ _ r h => by simp [retconkit_SameMarks.l0] at h
  | k + 1 => by
    have ih0 := retconkit_SameMarks.mono_l k
    · intro y0 y1 y2
      unfold retconkit_SameMarks.l0
      repeat' first
      | (with_reducible exact ih0 _ _ _)
      | (with_reducible exact LeO.refl _)
      | (with_reducible exact LeO.none _)
      | (with_reducible refine LeO.ite ?_ ?_)
      | (with_reducible refine LeO.bind ?_ (fun _ => ?_))
      | exact ih0 _ _ _
      | exact LeO.none _
      | refine LeO.ite ?_ ?_
      | refine LeO.bind ?_ (fun _ => ?_)
theorem retconkit_SameMarks.mono : ∀ a0 a1 k, LeO (retconkit_SameMarks.f k a0 a1) (retconkit_SameMarks.f (k + 1) a0 a1) := by
  intro a0 a1 k
  have ih0 := retconkit_SameMarks.mono_l k
  unfold retconkit_SameMarks.f
  repeat' first
      | (with_reducible exact ih0 _ _ _)
      | (with_reducible exact LeO.refl _)
      | (with_reducible exact LeO.none _)
      | (with_reducible refine LeO.ite ?_ ?_)
      | (with_reducible refine LeO.bind ?_ (fun _ => ?_))
      | exact ih0 _ _ _
      | exact LeO.none _
      | refine LeO.ite ?_ ?_
      | refine LeO.bind ?_ (fun _ => ?_)
set_option maxHeartbeats 8000000 in
set_option maxRecDepth 100000 in
theorem retconkit_SameMarks.calls (k : Nat) (A0 : Option Addr) (c0 : Nat) (l0 : List (S27)) (A1 : Option Addr) (c1 : Nat) (l1 : List (S27)) (r : Bool) (w : World) (hr0 : Kd.C k27 w A0 l0.length l0) (hc0 : l0.length ≤ c0) (hr1 : Kd.C k27 w A1 l1.length l1) (hc1 : l1.length ≤ c1) (h : retconkit_SameMarks.f k l0 l1 = some r) :
    Calls Try.prog 12 #[.slice A0 l0.length c0, .slice A1 l1.length c1] w fun e w' => e = .returned (.bool r) ∧ Drawn0 w w' := by
  have hu27 := Try.underlying27
  have HR0 := Aside0.mk hr0
  have HC0 := Aside0.mk hc0
  clear hr0 hc0
  have HR1 := Aside0.mk hr1
  have HC1 := Aside0.mk hc1
  clear hr1 hc1
  have H : (if (l0.length : Int) = (l1.length : Int) then (retconkit_SameMarks.l0 k l0 l1 0) else (some false)) = some r := h
  clear h
  by_cases c3 : (l0.length : Int) = (l1.length : Int)
  · rw [if_pos c3] at H
    have c3b0 : ((l0.length : Int) == (l1.length : Int)) = true := beq_iff_eq.mpr c3
    have c3b1 : ((l0.length : Int) != (l1.length : Int)) = false := bne_eq_false_iff_eq.mpr c3
    have c3b2 : (l0.length == l1.length) = true := by first | simpa using c3 | (simp at c3 ⊢; omega)
    clear c3
    have H' := Aside0.mk H
    clear H
    go_enter Try.func12, Try.ntmps12
    go_wp2
    repeat (go_quiet (fail); try go_wp2)
    go_loopg [5] k (fun kq v5 w' => ∃ (x5_1 : Int), v5 = .int .i64 x5_1 ∧ Aside0 (retconkit_SameMarks.l0 kq l0 l1 x5_1 = some r) ∧ Aside0 (kq ≤ k) ∧ Drawn0 w w')
    case atStart => exact ⟨(0), (by first | rfl | (simp; done) | (simp [*]; done)), H', ⟨Nat.le_refl _⟩, by repeat (first | exact Drawn0.refl _ | apply Drawn0.step)⟩
    case round =>
      clear H'
      try clear c1
      try clear p2
      try clear c3
      try clear c3b0
      try clear c3b1
      try clear c3b2
      obtain ⟨x5_1, rfl, HA, HK1, ⟨m1, rfl⟩⟩ := hrel
      cases gk with
      | zero => exact absurd HA.out (by simp [retconkit_SameMarks.l0])
      | succ k1 =>
        have H := HA.out
        clear HA
        simp only [retconkit_SameMarks.l0] at H
        by_cases c4 : x5_1 < (l0.length : Int)
        · rw [if_pos c4] at H
          have c4b0 : decide (x5_1 < (l0.length : Int)) = true := decide_eq_true c4
          clear c4
          by_cases c5 : 0 ≤ x5_1
          · rw [if_pos c5] at H
            have c5b0 : decide (0 ≤ x5_1) = true := decide_eq_true c5
            clear c5
            by_cases c6 : x5_1 < (l1.length : Int)
            · rw [if_pos c6] at H
              have c6b0 : decide (x5_1 < (l1.length : Int)) = true := decide_eq_true c6
              clear c6
              by_cases c7 : (!(((rd_T27 l0 x5_1).f0) == ((rd_T27 l1 x5_1).f0)) || ((!(((rd_T27 l0 x5_1).f1.f0) == ((rd_T27 l1 x5_1).f1.f0)) || (!(((rd_T27 l0 x5_1).f1.f1) == ((rd_T27 l1 x5_1).f1.f1)) || (!(((rd_T27 l0 x5_1).f1.f2) == ((rd_T27 l1 x5_1).f1.f2)) || (!(((rd_T27 l0 x5_1).f1.f3) == ((rd_T27 l1 x5_1).f1.f3)) || (!(((rd_T27 l0 x5_1).f1.f4) == ((rd_T27 l1 x5_1).f1.f4)) || (!(((rd_T27 l0 x5_1).f1.f5) == ((rd_T27 l1 x5_1).f1.f5)) || (!(((rd_T27 l0 x5_1).f1.f6) == ((rd_T27 l1 x5_1).f1.f6)) || (!(((rd_T27 l0 x5_1).f1.f7) == ((rd_T27 l1 x5_1).f1.f7)) || (!(((rd_T27 l0 x5_1).f1.f8) == ((rd_T27 l1 x5_1).f1.f8)) || (!(((rd_T27 l0 x5_1).f1.f9) == ((rd_T27 l1 x5_1).f1.f9)) || (!(((rd_T27 l0 x5_1).f1.f10) == ((rd_T27 l1 x5_1).f1.f10)) || (!(((rd_T27 l0 x5_1).f1.f11) == ((rd_T27 l1 x5_1).f1.f11)) || (!(((rd_T27 l0 x5_1).f1.f12) == ((rd_T27 l1 x5_1).f1.f12)) || (!(((rd_T27 l0 x5_1).f1.f13) == ((rd_T27 l1 x5_1).f1.f13)) || (!(((rd_T27 l0 x5_1).f1.f14) == ((rd_T27 l1 x5_1).f1.f14)) || (!(((rd_T27 l0 x5_1).f1.f15) == ((rd_T27 l1 x5_1).f1.f15)) || (!(((rd_T27 l0 x5_1).f1.f16) == ((rd_T27 l1 x5_1).f1.f16)) || (!(((rd_T27 l0 x5_1).f1.f17) == ((rd_T27 l1 x5_1).f1.f17)) || (!(((rd_T27 l0 x5_1).f1.f18) == ((rd_T27 l1 x5_1).f1.f18)) || (!(((rd_T27 l0 x5_1).f1.f19) == ((rd_T27 l1 x5_1).f1.f19)) || (!(((rd_T27 l0 x5_1).f1.f20) == ((rd_T27 l1 x5_1).f1.f20)) || (!(((rd_T27 l0 x5_1).f1.f21) == ((rd_T27 l1 x5_1).f1.f21)) || (!(((rd_T27 l0 x5_1).f1.f22) == ((rd_T27 l1 x5_1).f1.f22)) || (!(((rd_T27 l0 x5_1).f1.f23) == ((rd_T27 l1 x5_1).f1.f23)) || (!(((rd_T27 l0 x5_1).f1.f24) == ((rd_T27 l1 x5_1).f1.f24)) || (!(((rd_T27 l0 x5_1).f1.f25) == ((rd_T27 l1 x5_1).f1.f25)) || (!(((rd_T27 l0 x5_1).f1.f26) == ((rd_T27 l1 x5_1).f1.f26)) || (!(((rd_T27 l0 x5_1).f1.f27) == ((rd_T27 l1 x5_1).f1.f27)) || (!(((rd_T27 l0 x5_1).f1.f28) == ((rd_T27 l1 x5_1).f1.f28)) || (!(((rd_T27 l0 x5_1).f1.f29) == ((rd_T27 l1 x5_1).f1.f29)) || (!(((rd_T27 l0 x5_1).f1.f30) == ((rd_T27 l1 x5_1).f1.f30)) || (!(((rd_T27 l0 x5_1).f1.f31) == ((rd_T27 l1 x5_1).f1.f31)))))))))))))))))))))))))))))))))))) = true
              · rw [if_pos c7] at H
                have c7b0 : (!(((rd_T27 l0 x5_1).f0) == ((rd_T27 l1 x5_1).f0)) || ((!(((rd_T27 l0 x5_1).f1.f0) == ((rd_T27 l1 x5_1).f1.f0)) || (!(((rd_T27 l0 x5_1).f1.f1) == ((rd_T27 l1 x5_1).f1.f1)) || (!(((rd_T27 l0 x5_1).f1.f2) == ((rd_T27 l1 x5_1).f1.f2)) || (!(((rd_T27 l0 x5_1).f1.f3) == ((rd_T27 l1 x5_1).f1.f3)) || (!(((rd_T27 l0 x5_1).f1.f4) == ((rd_T27 l1 x5_1).f1.f4)) || (!(((rd_T27 l0 x5_1).f1.f5) == ((rd_T27 l1 x5_1).f1.f5)) || (!(((rd_T27 l0 x5_1).f1.f6) == ((rd_T27 l1 x5_1).f1.f6)) || (!(((rd_T27 l0 x5_1).f1.f7) == ((rd_T27 l1 x5_1).f1.f7)) || (!(((rd_T27 l0 x5_1).f1.f8) == ((rd_T27 l1 x5_1).f1.f8)) || (!(((rd_T27 l0 x5_1).f1.f9) == ((rd_T27 l1 x5_1).f1.f9)) || (!(((rd_T27 l0 x5_1).f1.f10) == ((rd_T27 l1 x5_1).f1.f10)) || (!(((rd_T27 l0 x5_1).f1.f11) == ((rd_T27 l1 x5_1).f1.f11)) || (!(((rd_T27 l0 x5_1).f1.f12) == ((rd_T27 l1 x5_1).f1.f12)) || (!(((rd_T27 l0 x5_1).f1.f13) == ((rd_T27 l1 x5_1).f1.f13)) || (!(((rd_T27 l0 x5_1).f1.f14) == ((rd_T27 l1 x5_1).f1.f14)) || (!(((rd_T27 l0 x5_1).f1.f15) == ((rd_T27 l1 x5_1).f1.f15)) || (!(((rd_T27 l0 x5_1).f1.f16) == ((rd_T27 l1 x5_1).f1.f16)) || (!(((rd_T27 l0 x5_1).f1.f17) == ((rd_T27 l1 x5_1).f1.f17)) || (!(((rd_T27 l0 x5_1).f1.f18) == ((rd_T27 l1 x5_1).f1.f18)) || (!(((rd_T27 l0 x5_1).f1.f19) == ((rd_T27 l1 x5_1).f1.f19)) || (!(((rd_T27 l0 x5_1).f1.f20) == ((rd_T27 l1 x5_1).f1.f20)) || (!(((rd_T27 l0 x5_1).f1.f21) == ((rd_T27 l1 x5_1).f1.f21)) || (!(((rd_T27 l0 x5_1).f1.f22) == ((rd_T27 l1 x5_1).f1.f22)) || (!(((rd_T27 l0 x5_1).f1.f23) == ((rd_T27 l1 x5_1).f1.f23)) || (!(((rd_T27 l0 x5_1).f1.f24) == ((rd_T27 l1 x5_1).f1.f24)) || (!(((rd_T27 l0 x5_1).f1.f25) == ((rd_T27 l1 x5_1).f1.f25)) || (!(((rd_T27 l0 x5_1).f1.f26) == ((rd_T27 l1 x5_1).f1.f26)) || (!(((rd_T27 l0 x5_1).f1.f27) == ((rd_T27 l1 x5_1).f1.f27)) || (!(((rd_T27 l0 x5_1).f1.f28) == ((rd_T27 l1 x5_1).f1.f28)) || (!(((rd_T27 l0 x5_1).f1.f29) == ((rd_T27 l1 x5_1).f1.f29)) || (!(((rd_T27 l0 x5_1).f1.f30) == ((rd_T27 l1 x5_1).f1.f30)) || (!(((rd_T27 l0 x5_1).f1.f31) == ((rd_T27 l1 x5_1).f1.f31)))))))))))))))))))))))))))))))))))) = true := c7
                clear c7
                obtain rfl := Option.some.inj H
                have p128 : 0 ≤ (x5_1 : Int) := of_decide_eq_true (by first | (with_reducible assumption) | assumption)
                have q128 : x5_1 < (l0.length : Int) := of_decide_eq_true (by first | (with_reducible assumption) | assumption)
                obtain ⟨ad128, e128, hx128_0, hx128_1, hx128_2, hx128_3, hx128_4, hx128_5, hx128_6, hx128_7, hx128_8, hx128_9, hx128_10, hx128_11, hx128_12, hx128_13, hx128_14, hx128_15, hx128_16, hx128_17, hx128_18, hx128_19, hx128_20, hx128_21, hx128_22, hx128_23, hx128_24, hx128_25, hx128_26, hx128_27, hx128_28, hx128_29, hx128_30, hx128_31, hx128_32⟩ := at_T27 HR0.out x5_1 p128 q128
                cases e128
                (first | (obtain ⟨hr128, hrn128⟩ := row27_mk hx128_0 hx128_1 hx128_2 hx128_3 hx128_4 hx128_5 hx128_6 hx128_7 hx128_8 hx128_9 hx128_10 hx128_11 hx128_12 hx128_13 hx128_14 hx128_15 hx128_16 hx128_17 hx128_18 hx128_19 hx128_20 hx128_21 hx128_22 hx128_23 hx128_24 hx128_25 hx128_26 hx128_27 hx128_28 hx128_29 hx128_30 hx128_31 hx128_32; clear hx128_1 hx128_2 hx128_3 hx128_4 hx128_5 hx128_6 hx128_7 hx128_8 hx128_9 hx128_10 hx128_11 hx128_12 hx128_13 hx128_14 hx128_15 hx128_16 hx128_17 hx128_18 hx128_19 hx128_20 hx128_21 hx128_22 hx128_23 hx128_24 hx128_25 hx128_26 hx128_27 hx128_28 hx128_29 hx128_30 hx128_31 hx128_32) | skip)
                replace p128 := eq_true p128
                replace q128 := eq_true q128
                have p129 : 0 ≤ (x5_1 : Int) := of_decide_eq_true (by first | (with_reducible assumption) | assumption)
                have q129 : x5_1 < (l1.length : Int) := of_decide_eq_true (by first | (with_reducible assumption) | assumption)
                obtain ⟨ad129, e129, hx129_0, hx129_1, hx129_2, hx129_3, hx129_4, hx129_5, hx129_6, hx129_7, hx129_8, hx129_9, hx129_10, hx129_11, hx129_12, hx129_13, hx129_14, hx129_15, hx129_16, hx129_17, hx129_18, hx129_19, hx129_20, hx129_21, hx129_22, hx129_23, hx129_24, hx129_25, hx129_26, hx129_27, hx129_28, hx129_29, hx129_30, hx129_31, hx129_32⟩ := at_T27 HR1.out x5_1 p129 q129
                cases e129
                (first | (obtain ⟨hr129, hrn129⟩ := row27_mk hx129_0 hx129_1 hx129_2 hx129_3 hx129_4 hx129_5 hx129_6 hx129_7 hx129_8 hx129_9 hx129_10 hx129_11 hx129_12 hx129_13 hx129_14 hx129_15 hx129_16 hx129_17 hx129_18 hx129_19 hx129_20 hx129_21 hx129_22 hx129_23 hx129_24 hx129_25 hx129_26 hx129_27 hx129_28 hx129_29 hx129_30 hx129_31 hx129_32; clear hx129_1 hx129_2 hx129_3 hx129_4 hx129_5 hx129_6 hx129_7 hx129_8 hx129_9 hx129_10 hx129_11 hx129_12 hx129_13 hx129_14 hx129_15 hx129_16 hx129_17 hx129_18 hx129_19 hx129_20 hx129_21 hx129_22 hx129_23 hx129_24 hx129_25 hx129_26 hx129_27 hx129_28 hx129_29 hx129_30 hx129_31 hx129_32) | skip)
                replace p129 := eq_true p129
                replace q129 := eq_true q129
                go_wp2
                repeat (go_quiet (fail); try go_wp2)
                go_ret
                exact ⟨by first | rfl | (simp; done) | (simp [*]; done), by repeat (first | exact Drawn0.refl _ | apply Drawn0.step)⟩
              · rw [if_neg c7] at H
                have c7b0 : (!(((rd_T27 l0 x5_1).f0) == ((rd_T27 l1 x5_1).f0)) || ((!(((rd_T27 l0 x5_1).f1.f0) == ((rd_T27 l1 x5_1).f1.f0)) || (!(((rd_T27 l0 x5_1).f1.f1) == ((rd_T27 l1 x5_1).f1.f1)) || (!(((rd_T27 l0 x5_1).f1.f2) == ((rd_T27 l1 x5_1).f1.f2)) || (!(((rd_T27 l0 x5_1).f1.f3) == ((rd_T27 l1 x5_1).f1.f3)) || (!(((rd_T27 l0 x5_1).f1.f4) == ((rd_T27 l1 x5_1).f1.f4)) || (!(((rd_T27 l0 x5_1).f1.f5) == ((rd_T27 l1 x5_1).f1.f5)) || (!(((rd_T27 l0 x5_1).f1.f6) == ((rd_T27 l1 x5_1).f1.f6)) || (!(((rd_T27 l0 x5_1).f1.f7) == ((rd_T27 l1 x5_1).f1.f7)) || (!(((rd_T27 l0 x5_1).f1.f8) == ((rd_T27 l1 x5_1).f1.f8)) || (!(((rd_T27 l0 x5_1).f1.f9) == ((rd_T27 l1 x5_1).f1.f9)) || (!(((rd_T27 l0 x5_1).f1.f10) == ((rd_T27 l1 x5_1).f1.f10)) || (!(((rd_T27 l0 x5_1).f1.f11) == ((rd_T27 l1 x5_1).f1.f11)) || (!(((rd_T27 l0 x5_1).f1.f12) == ((rd_T27 l1 x5_1).f1.f12)) || (!(((rd_T27 l0 x5_1).f1.f13) == ((rd_T27 l1 x5_1).f1.f13)) || (!(((rd_T27 l0 x5_1).f1.f14) == ((rd_T27 l1 x5_1).f1.f14)) || (!(((rd_T27 l0 x5_1).f1.f15) == ((rd_T27 l1 x5_1).f1.f15)) || (!(((rd_T27 l0 x5_1).f1.f16) == ((rd_T27 l1 x5_1).f1.f16)) || (!(((rd_T27 l0 x5_1).f1.f17) == ((rd_T27 l1 x5_1).f1.f17)) || (!(((rd_T27 l0 x5_1).f1.f18) == ((rd_T27 l1 x5_1).f1.f18)) || (!(((rd_T27 l0 x5_1).f1.f19) == ((rd_T27 l1 x5_1).f1.f19)) || (!(((rd_T27 l0 x5_1).f1.f20) == ((rd_T27 l1 x5_1).f1.f20)) || (!(((rd_T27 l0 x5_1).f1.f21) == ((rd_T27 l1 x5_1).f1.f21)) || (!(((rd_T27 l0 x5_1).f1.f22) == ((rd_T27 l1 x5_1).f1.f22)) || (!(((rd_T27 l0 x5_1).f1.f23) == ((rd_T27 l1 x5_1).f1.f23)) || (!(((rd_T27 l0 x5_1).f1.f24) == ((rd_T27 l1 x5_1).f1.f24)) || (!(((rd_T27 l0 x5_1).f1.f25) == ((rd_T27 l1 x5_1).f1.f25)) || (!(((rd_T27 l0 x5_1).f1.f26) == ((rd_T27 l1 x5_1).f1.f26)) || (!(((rd_T27 l0 x5_1).f1.f27) == ((rd_T27 l1 x5_1).f1.f27)) || (!(((rd_T27 l0 x5_1).f1.f28) == ((rd_T27 l1 x5_1).f1.f28)) || (!(((rd_T27 l0 x5_1).f1.f29) == ((rd_T27 l1 x5_1).f1.f29)) || (!(((rd_T27 l0 x5_1).f1.f30) == ((rd_T27 l1 x5_1).f1.f30)) || (!(((rd_T27 l0 x5_1).f1.f31) == ((rd_T27 l1 x5_1).f1.f31)))))))))))))))))))))))))))))))))))) = false := by simpa using c7
                clear c7
                have H' := Aside0.mk H
                clear H
                have p128 : 0 ≤ (x5_1 : Int) := of_decide_eq_true (by first | (with_reducible assumption) | assumption)
                have q128 : x5_1 < (l0.length : Int) := of_decide_eq_true (by first | (with_reducible assumption) | assumption)
                obtain ⟨ad128, e128, hx128_0, hx128_1, hx128_2, hx128_3, hx128_4, hx128_5, hx128_6, hx128_7, hx128_8, hx128_9, hx128_10, hx128_11, hx128_12, hx128_13, hx128_14, hx128_15, hx128_16, hx128_17, hx128_18, hx128_19, hx128_20, hx128_21, hx128_22, hx128_23, hx128_24, hx128_25, hx128_26, hx128_27, hx128_28, hx128_29, hx128_30, hx128_31, hx128_32⟩ := at_T27 HR0.out x5_1 p128 q128
                cases e128
                (first | (obtain ⟨hr128, hrn128⟩ := row27_mk hx128_0 hx128_1 hx128_2 hx128_3 hx128_4 hx128_5 hx128_6 hx128_7 hx128_8 hx128_9 hx128_10 hx128_11 hx128_12 hx128_13 hx128_14 hx128_15 hx128_16 hx128_17 hx128_18 hx128_19 hx128_20 hx128_21 hx128_22 hx128_23 hx128_24 hx128_25 hx128_26 hx128_27 hx128_28 hx128_29 hx128_30 hx128_31 hx128_32; clear hx128_1 hx128_2 hx128_3 hx128_4 hx128_5 hx128_6 hx128_7 hx128_8 hx128_9 hx128_10 hx128_11 hx128_12 hx128_13 hx128_14 hx128_15 hx128_16 hx128_17 hx128_18 hx128_19 hx128_20 hx128_21 hx128_22 hx128_23 hx128_24 hx128_25 hx128_26 hx128_27 hx128_28 hx128_29 hx128_30 hx128_31 hx128_32) | skip)
                replace p128 := eq_true p128
                replace q128 := eq_true q128
                have p129 : 0 ≤ (x5_1 : Int) := of_decide_eq_true (by first | (with_reducible assumption) | assumption)
                have q129 : x5_1 < (l1.length : Int) := of_decide_eq_true (by first | (with_reducible assumption) | assumption)
                obtain ⟨ad129, e129, hx129_0, hx129_1, hx129_2, hx129_3, hx129_4, hx129_5, hx129_6, hx129_7, hx129_8, hx129_9, hx129_10, hx129_11, hx129_12, hx129_13, hx129_14, hx129_15, hx129_16, hx129_17, hx129_18, hx129_19, hx129_20, hx129_21, hx129_22, hx129_23, hx129_24, hx129_25, hx129_26, hx129_27, hx129_28, hx129_29, hx129_30, hx129_31, hx129_32⟩ := at_T27 HR1.out x5_1 p129 q129
                cases e129
                (first | (obtain ⟨hr129, hrn129⟩ := row27_mk hx129_0 hx129_1 hx129_2 hx129_3 hx129_4 hx129_5 hx129_6 hx129_7 hx129_8 hx129_9 hx129_10 hx129_11 hx129_12 hx129_13 hx129_14 hx129_15 hx129_16 hx129_17 hx129_18 hx129_19 hx129_20 hx129_21 hx129_22 hx129_23 hx129_24 hx129_25 hx129_26 hx129_27 hx129_28 hx129_29 hx129_30 hx129_31 hx129_32; clear hx129_1 hx129_2 hx129_3 hx129_4 hx129_5 hx129_6 hx129_7 hx129_8 hx129_9 hx129_10 hx129_11 hx129_12 hx129_13 hx129_14 hx129_15 hx129_16 hx129_17 hx129_18 hx129_19 hx129_20 hx129_21 hx129_22 hx129_23 hx129_24 hx129_25 hx129_26 hx129_27 hx129_28 hx129_29 hx129_30 hx129_31 hx129_32) | skip)
                replace p129 := eq_true p129
                replace q129 := eq_true q129
                go_wp2
                repeat (go_quiet (fail); try go_wp2)
                go_roundg k1
                case measure => have := HK1.out; omega
                case rel => exact ⟨(wrap64 (x5_1 + 1)), (by first | rfl | (simp; done) | (simp [*]; done)), H', ⟨by have := HK1.out; omega⟩, by repeat (first | exact Drawn0.refl _ | apply Drawn0.step)⟩
            · rw [if_neg c6] at H
              exact absurd H (by simp)
          · rw [if_neg c5] at H
            exact absurd H (by simp)
        · rw [if_neg c4] at H
          have c4b0 : decide (x5_1 < (l0.length : Int)) = false := decide_eq_false c4
          clear c4
          obtain rfl := Option.some.inj H
          go_wp2
          repeat (go_quiet (fail); try go_wp2)
          go_ret
          exact ⟨by first | rfl | (simp; done) | (simp [*]; done), by repeat (first | exact Drawn0.refl _ | apply Drawn0.step)⟩
  · rw [if_neg c3] at H
    have c3b0 : ((l0.length : Int) == (l1.length : Int)) = false := beq_eq_false_iff_ne.mpr c3
    have c3b1 : ((l0.length : Int) != (l1.length : Int)) = true := bne_iff_ne.mpr c3
    have c3b2 : (l0.length == l1.length) = false := by first | simpa using c3 | (simp at c3 ⊢; omega)
    obtain rfl := Option.some.inj H
    go_enter Try.func12, Try.ntmps12
    go_wp2
    repeat (go_quiet (fail); try go_wp2)
    go_ret
    exact ⟨by first | rfl | (simp; done) | (simp [*]; done), by repeat (first | exact Drawn0.refl _ | apply Drawn0.step)⟩

/-! ### retconkit_SameInts: function 14 -/
def retconkit_SameInts.l0 : Nat → List Int → List Int → Int → Option (Bool)
  | 0, _, _, _ => none
  | k + 1, x0, x1, x5 => if x5 < (x0.length : Int) then (if 0 ≤ x5 then (if x5 < (x1.length : Int) then (if (rd x0 x5) = (rd x1 x5) then (retconkit_SameInts.l0 k x0 x1 (wrap64 (x5 + 1))) else (some false)) else (none)) else (none)) else (some true)
def retconkit_SameInts.f (k : Nat) (l0 : List Int) (l1 : List Int) : Option (Bool) := if (l0.length : Int) = (l1.length : Int) then (retconkit_SameInts.l0 k l0 l1 0) else (some false)
theorem retconkit_SameInts.mono_l : ∀ k, (∀ y0 y1 y2, LeO (retconkit_SameInts.l0 k y0 y1 y2) (retconkit_SameInts.l0 (k + 1) y0 y1 y2))
  | 0 => fun _ _ _ r h => by simp [retconkit_SameInts.l0] at h
  | k + 1 => by
    have ih0 := retconkit_SameInts.mono_l k
    · intro y0 y1 y2
      unfold retconkit_SameInts.l0
      repeat' first
      | (with_reducible exact ih0 _ _ _)
      | (with_reducible exact LeO.refl _)
      | (with_reducible exact LeO.none _)
      | (with_reducible refine LeO.ite ?_ ?_)
      | (with_reducible refine LeO.bind ?_ (fun _ => ?_))
      | exact ih0 _ _ _
      | exact LeO.none _
      | refine LeO.ite ?_ ?_
      | refine LeO.bind ?_ (fun _ => ?_)
theorem retconkit_SameInts.mono : ∀ a0 a1 k, LeO (retconkit_SameInts.f k a0 a1) (retconkit_SameInts.f (k + 1) a0 a1) := by
  intro a0 a1 k
  have ih0 := retconkit_SameInts.mono_l k
  unfold retconkit_SameInts.f
  repeat' first
      | (with_reducible exact ih0 _ _ _)
      | (with_reducible exact LeO.refl _)
      | (with_reducible exact LeO.none _)
      | (with_reducible refine LeO.ite ?_ ?_)
      | (with_reducible refine LeO.bind ?_ (fun _ => ?_))
      | exact ih0 _ _ _
      | exact LeO.none _
      | refine LeO.ite ?_ ?_
      | refine LeO.bind ?_ (fun _ => ?_)
set_option maxHeartbeats 8000000 in
set_option maxRecDepth 100000 in
theorem retconkit_SameInts.calls (k : Nat) (A0 : Option Addr) (c0 : Nat) (l0 : List Int) (A1 : Option Addr) (c1 : Nat) (l1 : List Int) (r : Bool) (w : World) (hr0 : Kd.C (Kd.int .i64) w A0 l0.length l0) (hc0 : l0.length ≤ c0) (hr1 : Kd.C (Kd.int .i64) w A1 l1.length l1) (hc1 : l1.length ≤ c1) (h : retconkit_SameInts.f k l0 l1 = some r) :
    Calls Try.prog 14 #[.slice A0 l0.length c0, .slice A1 l1.length c1] w fun e w' => e = .returned (.bool r) ∧ Drawn0 w w' := by
  have HR0 := Aside0.mk hr0
  have HC0 := Aside0.mk hc0
  clear hr0 hc0
  have HR1 := Aside0.mk hr1
  have HC1 := Aside0.mk hc1
  clear hr1 hc1
  have H : (if (l0.length : Int) = (l1.length : Int) then (retconkit_SameInts.l0 k l0 l1 0) else (some false)) = some r := h
  clear h
  by_cases c3 : (l0.length : Int) = (l1.length : Int)
  · rw [if_pos c3] at H
    have c3b0 : ((l0.length : Int) == (l1.length : Int)) = true := beq_iff_eq.mpr c3
    have c3b1 : ((l0.length : Int) != (l1.length : Int)) = false := bne_eq_false_iff_eq.mpr c3
    have c3b2 : (l0.length == l1.length) = true := by first | simpa using c3 | (simp at c3 ⊢; omega)
    clear c3
    have H' := Aside0.mk H
    clear H
    go_enter Try.func14, Try.ntmps14
    go_wp2
    repeat (go_quiet (fail); try go_wp2)
    go_loopg [5] k (fun kq v5 w' => ∃ (x5_1 : Int), v5 = .int .i64 x5_1 ∧ Aside0 (retconkit_SameInts.l0 kq l0 l1 x5_1 = some r) ∧ Aside0 (kq ≤ k) ∧ Drawn0 w w')
    case atStart => exact ⟨(0), (by first | rfl | (simp; done) | (simp [*]; done)), H', ⟨Nat.le_refl _⟩, by repeat (first | exact Drawn0.refl _ | apply Drawn0.step)⟩
    case round =>
      clear H'
      try clear c1
      try clear p2
      try clear c3
      try clear c3b0
      try clear c3b1
      try clear c3b2
      obtain ⟨x5_1, rfl, HA, HK1, ⟨m1, rfl⟩⟩ := hrel
      cases gk with
      | zero => exact absurd HA.out (by simp [retconkit_SameInts.l0])
      | succ k1 =>
        have H := HA.out
        clear HA
        simp only [retconkit_SameInts.l0] at H
        by_cases c4 : x5_1 < (l0.length : Int)
        · rw [if_pos c4] at H
          have c4b0 : decide (x5_1 < (l0.length : Int)) = true := decide_eq_true c4
          clear c4
          by_cases c5 : 0 ≤ x5_1
          · rw [if_pos c5] at H
            have c5b0 : decide (0 ≤ x5_1) = true := decide_eq_true c5
            clear c5
            by_cases c6 : x5_1 < (l1.length : Int)
            · rw [if_pos c6] at H
              have c6b0 : decide (x5_1 < (l1.length : Int)) = true := decide_eq_true c6
              clear c6
              by_cases c7 : (rd l0 x5_1) = (rd l1 x5_1)
              · rw [if_pos c7] at H
                have c7b0 : ((rd l0 x5_1) == (rd l1 x5_1)) = true := beq_iff_eq.mpr c7
                have c7b1 : ((rd l0 x5_1) != (rd l1 x5_1)) = false := bne_eq_false_iff_eq.mpr c7
                clear c7
                have H' := Aside0.mk H
                clear H
                have p130 : 0 ≤ (x5_1 : Int) := of_decide_eq_true (by first | (with_reducible assumption) | assumption)
                have q130 : x5_1 < (l0.length : Int) := of_decide_eq_true (by first | (with_reducible assumption) | assumption)
                obtain ⟨ad130, e130, hx130_0⟩ := Kd.at_int HR0.out x5_1 p130 q130
                cases e130
                replace p130 := eq_true p130
                replace q130 := eq_true q130
                have p131 : 0 ≤ (x5_1 : Int) := of_decide_eq_true (by first | (with_reducible assumption) | assumption)
                have q131 : x5_1 < (l1.length : Int) := of_decide_eq_true (by first | (with_reducible assumption) | assumption)
                obtain ⟨ad131, e131, hx131_0⟩ := Kd.at_int HR1.out x5_1 p131 q131
                cases e131
                replace p131 := eq_true p131
                replace q131 := eq_true q131
                go_wp2
                repeat (go_quiet (fail); try go_wp2)
                go_roundg k1
                case measure => have := HK1.out; omega
                case rel => exact ⟨(wrap64 (x5_1 + 1)), (by first | rfl | (simp; done) | (simp [*]; done)), H', ⟨by have := HK1.out; omega⟩, by repeat (first | exact Drawn0.refl _ | apply Drawn0.step)⟩
              · rw [if_neg c7] at H
                have c7b0 : ((rd l0 x5_1) == (rd l1 x5_1)) = false := beq_eq_false_iff_ne.mpr c7
                have c7b1 : ((rd l0 x5_1) != (rd l1 x5_1)) = true := bne_iff_ne.mpr c7
                obtain rfl := Option.some.inj H
                have p130 : 0 ≤ (x5_1 : Int) := of_decide_eq_true (by first | (with_reducible assumption) | assumption)
                have q130 : x5_1 < (l0.length : Int) := of_decide_eq_true (by first | (with_reducible assumption) | assumption)
                obtain ⟨ad130, e130, hx130_0⟩ := Kd.at_int HR0.out x5_1 p130 q130
                cases e130
                replace p130 := eq_true p130
                replace q130 := eq_true q130
                have p131 : 0 ≤ (x5_1 : Int) := of_decide_eq_true (by first | (with_reducible assumption) | assumption)
                have q131 : x5_1 < (l1.length : Int) := of_decide_eq_true (by first | (with_reducible assumption) | assumption)
                obtain ⟨ad131, e131, hx131_0⟩ := Kd.at_int HR1.out x5_1 p131 q131
                cases e131
                replace p131 := eq_true p131
                replace q131 := eq_true q131
                go_wp2
                repeat (go_quiet (fail); try go_wp2)
                go_ret
                exact ⟨by first | rfl | (simp; done) | (simp [*]; done), by repeat (first | exact Drawn0.refl _ | apply Drawn0.step)⟩
            · rw [if_neg c6] at H
              exact absurd H (by simp)
          · rw [if_neg c5] at H
            exact absurd H (by simp)
        · rw [if_neg c4] at H
          have c4b0 : decide (x5_1 < (l0.length : Int)) = false := decide_eq_false c4
          clear c4
          obtain rfl := Option.some.inj H
          go_wp2
          repeat (go_quiet (fail); try go_wp2)
          go_ret
          exact ⟨by first | rfl | (simp; done) | (simp [*]; done), by repeat (first | exact Drawn0.refl _ | apply Drawn0.step)⟩
  · rw [if_neg c3] at H
    have c3b0 : ((l0.length : Int) == (l1.length : Int)) = false := beq_eq_false_iff_ne.mpr c3
    have c3b1 : ((l0.length : Int) != (l1.length : Int)) = true := bne_iff_ne.mpr c3
    have c3b2 : (l0.length == l1.length) = false := by first | simpa using c3 | (simp at c3 ⊢; omega)
    obtain rfl := Option.some.inj H
    go_enter Try.func14, Try.ntmps14
    go_wp2
    repeat (go_quiet (fail); try go_wp2)
    go_ret
    exact ⟨by first | rfl | (simp; done) | (simp [*]; done), by repeat (first | exact Drawn0.refl _ | apply Drawn0.step)⟩

/-! ### retconkit_OverMarks: function 17 -/
-- @import Derived.Deep.MidRow
def retconkit_OverMarks.l0 : Nat → List (S27) → Int → Option ((List (S27)))
  | 0, _, _ => none
  | k + 1, x0, x2 => if x2 < (x0.length : Int) then (if 0 ≤ x2 then (retconkit_OverMarks.l0 k (x0.set (x2 : Int).toNat (⟨(-7), (⟨0, 0, 0, 0, 0, 0, 0, 0, 0, 0, 0, 0, 0, 0, 0, 0, 0, 0, 0, 0, 0, 0, 0, 0, 0, 0, 0, 0, 0, 0, 0, 0⟩ : S25)⟩ : S27)) (wrap64 (x2 + 1))) else (none)) else (some x0)
def retconkit_OverMarks.f (k : Nat) (l0 : List (S27)) : Option ((List (S27))) := retconkit_OverMarks.l0 k l0 0
theorem retconkit_OverMarks.mono_l : ∀ k, (∀ y0 y1, LeO (retconkit_OverMarks.l0 k y0 y1) (retconkit_OverMarks.l0 (k + 1) y0 y1))
  | 0 => fun _ _ r h => by simp [retconkit_OverMarks.l0] at h
  | k + 1 => by
    have ih0 := retconkit_OverMarks.mono_l k
    · intro y0 y1
      unfold retconkit_OverMarks.l0
      repeat' first
      | (with_reducible exact ih0 _ _)
      | (with_reducible exact LeO.refl _)
      | (with_reducible exact LeO.none _)
      | (with_reducible refine LeO.ite ?_ ?_)
      | (with_reducible refine LeO.bind ?_ (fun _ => ?_))
      | exact ih0 _ _
      | exact LeO.none _
      | refine LeO.ite ?_ ?_
      | refine LeO.bind ?_ (fun _ => ?_)
theorem retconkit_OverMarks.mono : ∀ a0 k, LeO (retconkit_OverMarks.f k a0) (retconkit_OverMarks.f (k + 1) a0) := by
  intro a0 k
  have ih0 := retconkit_OverMarks.mono_l k
  unfold retconkit_OverMarks.f
  repeat' first
      | (with_reducible exact ih0 _ _)
      | (with_reducible exact LeO.refl _)
      | (with_reducible exact LeO.none _)
      | (with_reducible refine LeO.ite ?_ ?_)
      | (with_reducible refine LeO.bind ?_ (fun _ => ?_))
      | exact ih0 _ _
      | exact LeO.none _
      | refine LeO.ite ?_ ?_
      | refine LeO.bind ?_ (fun _ => ?_)
def retconkit_OverMarks.seg : List Value := .int .i64 (-7) :: List.replicate 32 (.int .u8 0)
theorem retconkit_OverMarks.hi : (Try.prog.info? 27).map (·.size) = some retconkit_OverMarks.seg.toArray.size := by kernel_rfl
theorem retconkit_OverMarks.h1 : retconkit_OverMarks.seg.toArray.all (·.oneCell') = true := by decide +kernel
theorem retconkit_OverMarks.whole {c : List Value} (h : c.length = k27.sz) : c.take 0 ++ retconkit_OverMarks.seg ++ c.drop (0 + retconkit_OverMarks.seg.length) = (retconkit_OverMarks.seg) := by
  have h : c.length = 33 := h
  rw [List.take_zero, List.nil_append, show 0 + retconkit_OverMarks.seg.length = 33 from rfl, List.drop_eq_nil_of_le (by omega), List.append_nil]
set_option maxHeartbeats 8000000 in
set_option maxRecDepth 100000 in
theorem retconkit_OverMarks.calls (k : Nat) (P0_ : Nat → Prop) (u9000_ : Value) (l0 : List (S27)) (r : List (S27)) (w0 w : World) (hB : Below w0.heap.size w0 w) (ho0 : Kd.R k27 27 w w0.heap.size P0_ u9000_ l0) (h : retconkit_OverMarks.f k l0 = some r) :
    Calls Try.prog 17 #[u9000_] w fun e w' => e = .returned (.tuple #[]) ∧ Kd.R k27 27 w' w0.heap.size (fun k_ => (P0_ k_ ∨ w.heap.size ≤ k_)) u9000_ r ∧ Below w0.heap.size w0 w' ∧ Kept w w' (fun k_ => P0_ k_) := by
  have hu_ := Try.underlying27
  have HO0 := Aside0.mk (show Kd.R k27 27 w w0.heap.size (fun k_ => (P0_ k_ ∨ w.heap.size ≤ k_)) u9000_ l0 from Kd.R_mono ho0 (fun k_ hk => (.inl hk)))
  have HK := Aside0.mk (Kept.refl w (fun k_ => P0_ k_))
  have HW0 := Aside0.mk hB.size
  have HB := Aside0.mk hB
  clear hB
  have H : (retconkit_OverMarks.l0 k l0 0) = some r := h
  clear h
  have H' := Aside0.mk H
  clear H
  go_enter Try.func17, Try.ntmps17
  go_wp2
  go_loopg [2] k (fun kq v2 w' => ∃ (x0_1 : List (S27)) (x2_1 : Int), v2 = .int .i64 x2_1 ∧ Aside0 (retconkit_OverMarks.l0 kq x0_1 x2_1 = some r) ∧ Aside0 (kq ≤ k) ∧ Aside0 (Kd.R k27 27 w' w0.heap.size (fun k_ => (P0_ k_ ∨ w.heap.size ≤ k_)) u9000_ x0_1) ∧ Aside0 (Kept w w' (fun k_ => P0_ k_)) ∧ Aside0 (Below w0.heap.size w0 w'))
  case atStart => exact ⟨(l0), (0), (by first | rfl | (simp; done) | (simp [*]; done)), H', ⟨Nat.le_refl _⟩, ⟨by (with_reducible repeat (first | apply Kd.R_alloc | apply Kd.R_drewN | apply Kd.R_drew)); exact HO0.out⟩, ⟨by repeat (first | (with_reducible first | exact HK.out | apply Kept.alloc | apply Kept.drewN | apply Kept.drew) | exact HK.out)⟩, ⟨by repeat (first | (with_reducible first | exact HB.out | apply below_alloc | apply pw_below_drewN | apply below_drew1) | exact HB.out)⟩⟩
  case round =>
    clear H'
    try clear c1
    obtain ⟨x0_1, x2_1, rfl, HA, HK1, HO_0, HK, HB⟩ := hrel
    cases gk with
    | zero => exact absurd HA.out (by simp [retconkit_OverMarks.l0])
    | succ k1 =>
      have H := HA.out
      clear HA
      simp only [retconkit_OverMarks.l0] at H
      by_cases c2 : x2_1 < (x0_1.length : Int)
      · rw [if_pos c2] at H
        have c2b0 : decide (x2_1 < (x0_1.length : Int)) = true := decide_eq_true c2
        clear c2
        by_cases c3 : 0 ≤ x2_1
        · rw [if_pos c3] at H
          have c3b0 : decide (0 ≤ x2_1) = true := decide_eq_true c3
          clear c3
          obtain ⟨y146, hy146⟩ : ∃ y_ : List (S27), y_ = (x0_1.set (x2_1 : Int).toNat (⟨(-7), (⟨0, 0, 0, 0, 0, 0, 0, 0, 0, 0, 0, 0, 0, 0, 0, 0, 0, 0, 0, 0, 0, 0, 0, 0, 0, 0, 0, 0, 0, 0, 0, 0⟩ : S25)⟩ : S27)) := ⟨_, rfl⟩
          replace H : (retconkit_OverMarks.l0 k1 y146 (wrap64 (x2_1 + 1))) = some r := by first | (rw [hy146]; with_reducible exact H) | (have H2_ := (Option.bind_some _ _).symm.trans H; rw [hy146]; with_reducible exact H2_) | (have H2_ := (Option.bind_some _ _).symm.trans H; with_reducible exact H2_) | with_reducible exact H | (rw [hy146]; exact H) | exact H
          have Ny146 := Aside0.mk hy146
          clear hy146
          have H' := Aside0.mk H
          clear H
          obtain ⟨Ao5, co5, eo5⟩ := Kd.R_slice HO_0.out
          subst eo5
          have p4 : 0 ≤ (x2_1 : Int) := of_decide_eq_true (by first | (with_reducible assumption) | assumption)
          have q4 : (x2_1 : Int) < ((x0_1.length : Int) : Int) := of_decide_eq_true (by first | (with_reducible assumption) | assumption)
          obtain ⟨go4, co4, eo4, gb4, gl4, cl4, HG4⟩ := Kd.R_form HO_0.out (by omega)
          (first | cases eo4 | (injection eo4 with ea_ en_ ec_; (first | subst ea_ | (injection ea_ with ea_; subst ea_)); subst ec_; clear en_))
          have GB4 := Aside0.mk gb4
          have GG4 := Aside0.mk HG4
          clear gb4 gl4 HG4
          have HMgo4 := Aside0.mk (show (P0_ go4 ∨ w.heap.size ≤ go4) from (HO_0.out.1 _ rfl))
          obtain ⟨ce6, hcl6, hM6, hcc6, hfr6⟩ := Kd.R_elem HO_0.out z27 (x2_1 : Int) p4 q4
          have HP6 := Aside0.mk (Kd.R_seg HO_0.out (x2_1 : Int) p4 q4 (seg := retconkit_OverMarks.seg) (j := 0) hcl6 hcc6 (show 33 ≤ 33 from by decide) (x' := (⟨(-7), (⟨0, 0, 0, 0, 0, 0, 0, 0, 0, 0, 0, 0, 0, 0, 0, 0, 0, 0, 0, 0, 0, 0, 0, 0, 0, 0, 0, 0, 0, 0, 0, 0⟩ : S25)⟩ : S27)) (by rw [retconkit_OverMarks.whole hcl6]; exact k27_mkM _ _ _ (⟨(-7), (⟨0, 0, 0, 0, 0, 0, 0, 0, 0, 0, 0, 0, 0, 0, 0, 0, 0, 0, 0, 0, 0, 0, 0, 0, 0, 0, 0, 0, 0, 0, 0, 0⟩ : S25)⟩ : S27)) (fun _ hk => hk))
          have HT6 := Aside0.mk (show wr.there go4 ((x2_1 : Int).toNat * 33) retconkit_OverMarks.seg.toArray.size from fun j hj => ⟨by rw [List.size_toArray, show retconkit_OverMarks.seg.length = 33 from rfl] at hj; have := hcc6 j _ (List.getElem?_eq_getElem (show j < ce6.length by have h3 : ce6.length = 33 := hcl6; omega)); exact Option.isSome_iff_exists.2 ⟨_, this⟩, hfr6 j⟩)
          clear hcl6 hM6 hcc6 hfr6
          replace p4 := eq_true p4
          replace q4 := eq_true q4
          go_wp2_with (first | (refine wpList_store_mid rfl 27 (.tmp 12) (.tmp 11) rfl go4 ((x2_1 : Int).toNat * 33) retconkit_OverMarks.seg.toArray rfl rfl HT6.out retconkit_OverMarks.hi retconkit_OverMarks.h1 ?_; obtain ⟨w7, hw⟩ : ∃ w7, wr.setCells go4 ((x2_1 : Int).toNat * 33) retconkit_OverMarks.seg.toArray.toList = w7 := ⟨_, rfl⟩; rw [hw]; have hw2 : wr.setCells go4 ((x2_1 : Int).toNat * 33 + 0) retconkit_OverMarks.seg = w7 := hw; have hg : wr.grownBy w7 (some go4) := (by rw [← hw2]; exact HP6.out.2); have hp_ : Kd.R k27 27 w7 w0.heap.size (fun k_ => (P0_ k_ ∨ w.heap.size ≤ k_)) (.slice (some ⟨go4, 0, none⟩) x0_1.length co5) y146 := (by rw [← hw2, Ny146.out]; exact HP6.out.1); clear HP6; have n0_ := Aside0.mk (hp_); have n1_ := Aside0.mk (show Below w0.heap.size w0 w7 from HB.out.grown hg HB.out.size (by intro k hk; injection hk with hk; rw [← hk]; exact GB4.out)); have n2_ := Aside0.mk (Kept.of_grown (S := (fun k_ => P0_ k_)) hg HK.out (fun k_ e_ => (HO_0.out.1 k_ e_))); clear HO_0; clear HB; clear HK; have HO_0 := n0_; have HB := n1_; have HK := n2_; clear n0_ n1_ n2_; clear hg hw hw2 hp_))
          go_roundg k1
          case measure => have := HK1.out; omega
          case rel => exact ⟨(y146), (wrap64 (x2_1 + 1)), (by first | rfl | (simp; done) | (simp [*]; done)), H', ⟨by have := HK1.out; omega⟩, ⟨by (with_reducible repeat (first | apply Kd.R_alloc | apply Kd.R_drewN | apply Kd.R_drew)); exact HO_0.out⟩, ⟨by repeat (first | (with_reducible first | exact HK.out | apply Kept.alloc | apply Kept.drewN | apply Kept.drew) | exact HK.out)⟩, ⟨by repeat (first | (with_reducible first | exact HB.out | apply below_alloc | apply pw_below_drewN | apply below_drew1) | exact HB.out)⟩⟩
        · rw [if_neg c3] at H
          exact absurd H (by simp)
      · rw [if_neg c2] at H
        have c2b0 : decide (x2_1 < (x0_1.length : Int)) = false := decide_eq_false c2
        clear c2
        obtain rfl := Option.some.inj H
        obtain ⟨Ao8, co8, eo8⟩ := Kd.R_slice HO_0.out
        subst eo8
        go_wp2
        first | go_end0 | ((try simp only [Exit.inBlock, Exit.then]); refine bodyPost_ret (results_none rfl _ _ _) rfl ?_)
        exact ⟨by first | rfl | (simp [errW_none, errW_some] <;> rfl) | (simp [*, errW_none, errW_some] <;> rfl), by (with_reducible repeat (first | apply Kd.R_alloc | apply Kd.R_drewN | apply Kd.R_drew)); exact HO_0.out, by repeat (first | (with_reducible first | exact HB.out | apply below_alloc | apply pw_below_drewN | apply below_drew1) | exact HB.out), by repeat (first | (with_reducible first | exact HK.out | apply Kept.alloc | apply Kept.drewN | apply Kept.drew) | exact HK.out)⟩


/-! ### retconlaw23_at: function 25 -/
def retconlaw23_at.l0 : Nat → List Int → List (S27) → Int → Option ((List (S27)))
  | 0, _, _, _ => none
  | k + 1, x0, x3, x4 => if x4 < (x0.length : Int) then (if 0 ≤ x4 then (if x3.length < 3518437208883 then (retconlaw23_at.l0 k x0 (x3 ++ [(⟨rd x0 x4, (⟨0, 0, 0, 0, 0, 0, 0, 0, 0, 0, 0, 0, 0, 0, 0, 0, 0, 0, 0, 0, 0, 0, 0, 0, 0, 0, 0, 0, 0, 0, 0, 0⟩ : S25)⟩ : S27)]) (wrap64 (x4 + 1))) else (none)) else (none)) else (some x3)
def retconlaw23_at.f (k : Nat) (l0 : List Int) : Option ((List (S27))) := retconlaw23_at.l0 k l0 ([] : List (S27)) 0
theorem retconlaw23_at.mono_l : ∀ k, (∀ y0 y1 y2, LeO (retconlaw23_at.l0 k y0 y1 y2) (retconlaw23_at.l0 (k + 1) y0 y1 y2))
  | 0 => fun _ _ _ r h => by simp [retconlaw23_at.l0] at h
  | k + 1 => by
    have ih0 := retconlaw23_at.mono_l k
    · intro y0 y1 y2
      unfold retconlaw23_at.l0
      repeat' first
      | (with_reducible exact ih0 _ _ _)
      | (with_reducible exact LeO.refl _)
      | (with_reducible exact LeO.none _)
      | (with_reducible refine LeO.ite ?_ ?_)
      | (with_reducible refine LeO.bind ?_ (fun _ => ?_))
      | exact ih0 _ _ _
      | exact LeO.none _
      | refine LeO.ite ?_ ?_
      | refine LeO.bind ?_ (fun _ => ?_)
theorem retconlaw23_at.mono : ∀ a0 k, LeO (retconlaw23_at.f k a0) (retconlaw23_at.f (k + 1) a0) := by
  intro a0 k
  have ih0 := retconlaw23_at.mono_l k
  unfold retconlaw23_at.f
  repeat' first
      | (with_reducible exact ih0 _ _ _)
      | (with_reducible exact LeO.refl _)
      | (with_reducible exact LeO.none _)
      | (with_reducible refine LeO.ite ?_ ?_)
      | (with_reducible refine LeO.bind ?_ (fun _ => ?_))
      | exact ih0 _ _ _
      | exact LeO.none _
      | refine LeO.ite ?_ ?_
      | refine LeO.bind ?_ (fun _ => ?_)
set_option maxHeartbeats 8000000 in
set_option maxRecDepth 100000 in
theorem retconlaw23_at.calls (k : Nat) (A0 : Option Addr) (c0 : Nat) (l0 : List Int) (r : List (S27)) (w : World) (hr0 : Kd.C (Kd.int .i64) w A0 l0.length l0) (hc0 : l0.length ≤ c0) (h : retconlaw23_at.f k l0 = some r) :
    Calls Try.prog 25 #[.slice A0 l0.length c0] w fun e w' => ∃ v0_ : Value, e = .returned (v0_) ∧ Kd.R k27 27 w' w.heap.size (fun _ => True) v0_ r ∧ Below w.heap.size w w' := by
  have hu27 := Try.underlying27
  have HR0 := Aside0.mk hr0
  have HC0 := Aside0.mk hc0
  clear hr0 hc0
  have HB := Aside0.mk (Below.refl w.heap.size w)
  have H : (retconlaw23_at.l0 k l0 ([] : List (S27)) 0) = some r := h
  clear h
  have H' := Aside0.mk H
  clear H
  go_enter Try.func25, Try.ntmps25
  go_wp2
  go_loopg [3, 4] k (fun kq v3 v4 w' => ∃ (x3_1 : List (S27)) (x4_1 : Int), v4 = .int .i64 x4_1 ∧ Aside0 (retconlaw23_at.l0 kq l0 x3_1 x4_1 = some r) ∧ Aside0 (kq ≤ k) ∧ Aside0 (Kd.R k27 27 w' w.heap.size (fun _ => True) v3 x3_1) ∧ Aside0 (Below w.heap.size w w'))
  case atStart => exact ⟨(([] : List (S27))), (0), (by first | rfl | (simp; done) | (simp [*]; done)), H', ⟨Nat.le_refl _⟩, ⟨by first | exact Kd.R_nil _ _ _ _ _ | exact Kd.N_nil _ _ _ _ _ | exact Kd.V_nil _ _ _ _ _ | exact Kd.Q_nil _ _ _ _ _ | exact Kd.S_nil _ _ _ _ _⟩, ⟨by repeat (first | (with_reducible first | exact HB.out | apply below_alloc | apply pw_below_drewN | apply below_drew1) | exact HB.out)⟩⟩
  case round =>
    clear H'
    obtain ⟨x3_1, x4_1, rfl, HA, HK1, HO_3, HB⟩ := hrel
    cases gk with
    | zero => exact absurd HA.out (by simp [retconlaw23_at.l0])
    | succ k1 =>
      have H := HA.out
      clear HA
      simp only [retconlaw23_at.l0] at H
      by_cases c2 : x4_1 < (l0.length : Int)
      · rw [if_pos c2] at H
        have c2b0 : decide (x4_1 < (l0.length : Int)) = true := decide_eq_true c2
        clear c2
        by_cases c3 : 0 ≤ x4_1
        · rw [if_pos c3] at H
          have c3b0 : decide (0 ≤ x4_1) = true := decide_eq_true c3
          clear c3
          by_cases c4 : x3_1.length < 3518437208883
          · rw [if_pos c4] at H
            have LMc4 := Aside0.mk c4
            clear c4
            obtain ⟨y147, hy147⟩ : ∃ y_ : List (S27), y_ = (x3_1 ++ [(⟨rd l0 x4_1, (⟨0, 0, 0, 0, 0, 0, 0, 0, 0, 0, 0, 0, 0, 0, 0, 0, 0, 0, 0, 0, 0, 0, 0, 0, 0, 0, 0, 0, 0, 0, 0, 0⟩ : S25)⟩ : S27)]) := ⟨_, rfl⟩
            replace H : (retconlaw23_at.l0 k1 l0 y147 (wrap64 (x4_1 + 1))) = some r := by first | (rw [hy147]; with_reducible exact H) | (have H2_ := (Option.bind_some _ _).symm.trans H; rw [hy147]; with_reducible exact H2_) | (have H2_ := (Option.bind_some _ _).symm.trans H; with_reducible exact H2_) | with_reducible exact H | (rw [hy147]; exact H) | exact H
            have Ny147 := Aside0.mk hy147
            clear hy147
            have H' := Aside0.mk H
            clear H
            have p146 : 0 ≤ (x4_1 : Int) := of_decide_eq_true (by first | (with_reducible assumption) | assumption)
            have q146 : x4_1 < (l0.length : Int) := of_decide_eq_true (by first | (with_reducible assumption) | assumption)
            obtain ⟨ad146, e146, hx146_0⟩ := Kd.at_int HR0.out x4_1 p146 q146
            cases e146
            replace hx146_0 := (HB.out.cell (World.block_lt_of_cell? w _ hx146_0)).trans hx146_0
            replace p146 := eq_true p146
            replace q146 := eq_true q146
            go_wp2_with (first | ((with_reducible refine gate_builtin (b := .append) (xs := #[.tmp 11, .tmp 17]) rfl ?_); at_builtin; refine Kd.R_append k27 (w0 := w) w.heap.size rfl (.tmp 11) (.tmp 17) 22 27 (.agg ((.int .i64 0) :: (.int .u8 0) :: (.int .u8 0) :: (.int .u8 0) :: (.int .u8 0) :: (.int .u8 0) :: (.int .u8 0) :: (.int .u8 0) :: (.int .u8 0) :: (.int .u8 0) :: (.int .u8 0) :: (.int .u8 0) :: (.int .u8 0) :: (.int .u8 0) :: (.int .u8 0) :: (.int .u8 0) :: (.int .u8 0) :: (.int .u8 0) :: (.int .u8 0) :: (.int .u8 0) :: (.int .u8 0) :: (.int .u8 0) :: (.int .u8 0) :: (.int .u8 0) :: (.int .u8 0) :: (.int .u8 0) :: (.int .u8 0) :: (.int .u8 0) :: (.int .u8 0) :: (.int .u8 0) :: (.int .u8 0) :: (.int .u8 0) :: (.int .u8 0) :: []).toArray) 40 rfl Try.underlying22 info27 rfl (by decide) (by omega) u3 x3_1 (⟨rd l0 x4_1, (⟨0, 0, 0, 0, 0, 0, 0, 0, 0, 0, 0, 0, 0, 0, 0, 0, 0, 0, 0, 0, 0, 0, 0, 0, 0, 0, 0, 0, 0, 0, 0, 0⟩ : S25)⟩ : S27) (.int .i64 (rd l0 x4_1) :: .int .u8 0 :: .int .u8 0 :: .int .u8 0 :: .int .u8 0 :: .int .u8 0 :: .int .u8 0 :: .int .u8 0 :: .int .u8 0 :: .int .u8 0 :: .int .u8 0 :: .int .u8 0 :: .int .u8 0 :: .int .u8 0 :: .int .u8 0 :: .int .u8 0 :: .int .u8 0 :: .int .u8 0 :: .int .u8 0 :: .int .u8 0 :: .int .u8 0 :: .int .u8 0 :: .int .u8 0 :: .int .u8 0 :: .int .u8 0 :: .int .u8 0 :: .int .u8 0 :: .int .u8 0 :: .int .u8 0 :: .int .u8 0 :: .int .u8 0 :: .int .u8 0 :: .int .u8 0 :: []) (fun _ => True) (fun _ => False) rfl rfl ?aP (fun _ hk => hk.elim) ?aF ?aO ?aB ?aS ?aL ?_; (case aP => exact k27_mkM _ _ _ (⟨rd l0 x4_1, (⟨0, 0, 0, 0, 0, 0, 0, 0, 0, 0, 0, 0, 0, 0, 0, 0, 0, 0, 0, 0, 0, 0, 0, 0, 0, 0, 0, 0, 0, 0, 0, 0⟩ : S25)⟩ : S27)); (case aB => exact (by repeat (first | (with_reducible first | exact HB.out | apply below_alloc | apply pw_below_drewN | apply below_drew1) | exact HB.out))); (case aF => exact (fun _ _ => trivial)); (case aO => exact (by (with_reducible repeat (first | apply Kd.R_alloc | apply Kd.R_drewN | apply Kd.R_drew)); exact HO_3.out)); (case aS => exact (below_size (by repeat (first | (with_reducible first | exact HB.out | apply below_alloc | apply pw_below_drewN | apply below_drew1) | exact HB.out)))); (case aL => have := LMc4.out; omega); intro v148 w5 ho hb hg hat; rw [← Ny147.out] at ho; have n0_ := Aside0.mk (hb); have n1_ := Aside0.mk (ho); clear HB; clear HO_3; have HB := n0_; have HO149 := n1_; clear n0_ n1_; clear ho hb hg hat))
            go_roundg k1
            case measure => have := HK1.out; omega
            case rel => exact ⟨(y147), (wrap64 (x4_1 + 1)), (by first | rfl | (simp; done) | (simp [*]; done)), H', ⟨by have := HK1.out; omega⟩, ⟨by (with_reducible repeat (first | apply Kd.R_alloc | apply Kd.R_drewN | apply Kd.R_drew)); exact HO149.out⟩, ⟨by repeat (first | (with_reducible first | exact HB.out | apply below_alloc | apply pw_below_drewN | apply below_drew1) | exact HB.out)⟩⟩
          · rw [if_neg c4] at H
            exact absurd H (by simp)
        · rw [if_neg c3] at H
          exact absurd H (by simp)
      · rw [if_neg c2] at H
        have c2b0 : decide (x4_1 < (l0.length : Int)) = false := decide_eq_false c2
        clear c2
        obtain rfl := Option.some.inj H
        go_wp2
        go_ret
        exact ⟨_, by first | rfl | (simp [errW_none, errW_some] <;> rfl) | (simp [*, errW_none, errW_some] <;> rfl), by (with_reducible repeat (first | apply Kd.R_alloc | apply Kd.R_drewN | apply Kd.R_drew)); exact HO_3.out, by repeat (first | (with_reducible first | exact HB.out | apply below_alloc | apply pw_below_drewN | apply below_drew1) | exact HB.out)⟩

-- NOT PRINTED: function 22 (retconlaw23_awake)

-- NOT PRINTED: function 3 (retconlaw23_CheckTells)

-- NOT PRINTED: function 4 (retconlaw23_CheckNear)

end Go.Proofs.Ytgippbgcmmjnbaa.XB
