-- Printed by xprint.py (a program of this work, over the kit's print.py). Lean checks it.
import Derived.Test.YtgippbgcmmjnbaaXB0
import Derived.Test.YtgippbgcmmjnbaaXB1
import Derived.Test.YtgippbgcmmjnbaaXBL
namespace Go.Proofs.Ytgippbgcmmjnbaa.XB
open Go.RowKit Go.Proofs.YtgippbgcmmjnbaaW.PrintWords Go.Proofs.YtgippbgcmmjnbaaW.PrintLast Go.Proofs.YtgippbgcmmjnbaaW.PrintMore
attribute [local go_sem] max2_int min2_int max_two min_two max_three min_three max_four min_four   -- for this text's walks alone
set_option linter.unusedVariables false
set_option linter.unusedSimpArgs false

attribute [local go_sem high] eqA27
attribute [local go_sem ↓ high] ld27
attribute [local go_sem high] LD27.new
/-! ### retconkit_SameMarks: function 12 -/
def retconkit_SameMarks.l0 : Nat → List (S27) → List (S27) → Int → Option (Bool)
  | 0, _, _, _ => none
  | k + 1, x0, x1, x5 => if x5 < (x0.length : Int) then (if 0 ≤ x5 then (if x5 < (x1.length : Int) then (if (!(((rd_T27 x0 x5).f0) == ((rd_T27 x1 x5).f0)) || ((!(((rd_T27 x0 x5).f1.f0) == ((rd_T27 x1 x5).f1.f0)) || (!(((rd_T27 x0 x5).f1.f1) == ((rd_T27 x1 x5).f1.f1)) || (!(((rd_T27 x0 x5).f1.f2) == ((rd_T27 x1 x5).f1.f2)) || (!(((rd_T27 x0 x5).f1.f3) == ((rd_T27 x1 x5).f1.f3)) || (!(((rd_T27 x0 x5).f1.f4) == ((rd_T27 x1 x5).f1.f4)) || (!(((rd_T27 x0 x5).f1.f5) == ((rd_T27 x1 x5).f1.f5)) || (!(((rd_T27 x0 x5).f1.f6) == ((rd_T27 x1 x5).f1.f6)) || (!(((rd_T27 x0 x5).f1.f7) == ((rd_T27 x1 x5).f1.f7)) || (!(((rd_T27 x0 x5).f1.f8) == ((rd_T27 x1 x5).f1.f8)) || (!(((rd_T27 x0 x5).f1.f9) == ((rd_T27 x1 x5).f1.f9)) || (!(((rd_T27 x0 x5).f1.f10) == ((rd_T27 x1 x5).f1.f10)) || (!(((rd_T27 x0 x5).f1.f11) == ((rd_T27 x1 x5).f1.f11)) || (!(((rd_T27 x0 x5).f1.f12) == ((rd_T27 x1 x5).f1.f12)) || (!(((rd_T27 x0 x5).f1.f13) == ((rd_T27 x1 x5).f1.f13)) || (!(((rd_T27 x0 x5).f1.f14) == ((rd_T27 x1 x5).f1.f14)) || (!(((rd_T27 x0 x5).f1.f15) == ((rd_T27 x1 x5).f1.f15)) || (!(((rd_T27 x0 x5).f1.f16) == ((rd_T27 x1 x5).f1.f16)) || (!(((rd_T27 x0 x5).f1.f17) == ((rd_T27 x1 x5).f1.f17)) || (!(((rd_T27 x0 x5).f1.f18) == ((rd_T27 x1 x5).f1.f18)) || (!(((rd_T27 x0 x5).f1.f19) == ((rd_T27 x1 x5).f1.f19)) || (!(((rd_T27 x0 x5).f1.f20) == ((rd_T27 x1 x5).f1.f20)) || (!(((rd_T27 x0 x5).f1.f21) == ((rd_T27 x1 x5).f1.f21)) || (!(((rd_T27 x0 x5).f1.f22) == ((rd_T27 x1 x5).f1.f22)) || (!(((rd_T27 x0 x5).f1.f23) == ((rd_T27 x1 x5).f1.f23)) || (!(((rd_T27 x0 x5).f1.f24) == ((rd_T27 x1 x5).f1.f24)) || (!(((rd_T27 x0 x5).f1.f25) == ((rd_T27 x1 x5).f1.f25)) || (!(((rd_T27 x0 x5).f1.f26) == ((rd_T27 x1 x5).f1.f26)) || (!(((rd_T27 x0 x5).f1.f27) == ((rd_T27 x1 x5).f1.f27)) || (!(((rd_T27 x0 x5).f1.f28) == ((rd_T27 x1 x5).f1.f28)) || (!(((rd_T27 x0 x5).f1.f29) == ((rd_T27 x1 x5).f1.f29)) || (!(((rd_T27 x0 x5).f1.f30) == ((rd_T27 x1 x5).f1.f30)) || (!(((rd_T27 x0 x5).f1.f31) == ((rd_T27 x1 x5).f1.f31)))))))))))))))))))))))))))))))))))) = true then (some false) else (retconkit_SameMarks.l0 k x0 x1 (wrap64 (x5 + 1)))) else (none)) else (none)) else (some true)
def retconkit_SameMarks.f (k : Nat) (l0 : List (S27)) (l1 : List (S27)) : Option (Bool) := if (l0.length : Int) = (l1.length : Int) then (retconkit_SameMarks.l0 k l0 l1 0) else (some false)
theorem retconkit_SameMarks.mono_l : ∀ k, (∀ y0 y1 y2, LeO (retconkit_SameMarks.l0 k y0 y1 y2) (retconkit_SameMarks.l0 (k + 1) y0 y1 y2))
  | 0 => fun _ _ _ r h => by simp [retconkit_SameMarks.l0] at h
  | k + 1 => by
    have ih0 := retconkit_SameMarks.mono_l k
    · intro y0 y1 y2
      unfold retconkit_SameMarks.l0
      repeat' first
      | (with_reducible exact ih0 _ _ _)
      | (with_reducible exact LeO.refl _)
      | (with_reducible exact LeO.none _)
      | (with_reducible refine LeO.ite ?_ ?_)
      | (with_reducible refine LeO.bind ?_ (fun _ => ?_))
      | exact ih0 _ _ _
      | exact LeO.none _
      | refine LeO.ite ?_ ?_
      | refine LeO.bind ?_ (fun _ => ?_)
theorem retconkit_SameMarks.mono : ∀ a0 a1 k, LeO (retconkit_SameMarks.f k a0 a1) (retconkit_SameMarks.f (k + 1) a0 a1) := by
  intro a0 a1 k
  have ih0 := retconkit_SameMarks.mono_l k
  unfold retconkit_SameMarks.f
  repeat' first
      | (with_reducible exact ih0 _ _ _)
      | (with_reducible exact LeO.refl _)
      | (with_reducible exact LeO.none _)
      | (with_reducible refine LeO.ite ?_ ?_)
      | (with_reducible refine LeO.bind ?_ (fun _ => ?_))
      | exact ih0 _ _ _
      | exact LeO.none _
      | refine LeO.ite ?_ ?_
      | refine LeO.bind ?_ (fun _ => ?_)
set_option maxHeartbeats 8000000 in
set_option maxRecDepth 100000 in
theorem retconkit_SameMarks.calls (k : Nat) (A0 : Option Addr) (c0 : Nat) (l0 : List (S27)) (A1 : Option Addr) (c1 : Nat) (l1 : List (S27)) (r : Bool) (w : World) (hr0 : Kd.C k27 w A0 l0.length l0) (hc0 : l0.length ≤ c0) (hr1 : Kd.C k27 w A1 l1.length l1) (hc1 : l1.length ≤ c1) (h : retconkit_SameMarks.f k l0 l1 = some r) :
    Calls Try.prog 12 #[.slice A0 l0.length c0, .slice A1 l1.length c1] w fun e w' => e = .returned (.bool r) ∧ Drawn0 w w' := by
  have hu27 := Try.underlying27
  have HR0 := Aside0.mk hr0
  have HC0 := Aside0.mk hc0
  clear hr0 hc0
  have HR1 := Aside0.mk hr1
  have HC1 := Aside0.mk hc1
  clear hr1 hc1
  have H : (if (l0.length : Int) = (l1.length : Int) then (retconkit_SameMarks.l0 k l0 l1 0) else (some false)) = some r := h
  clear h
  by_cases c3 : (l0.length : Int) = (l1.length : Int)
  · rw [if_pos c3] at H
    have c3b0 : ((l0.length : Int) == (l1.length : Int)) = true := beq_iff_eq.mpr c3
    have c3b1 : ((l0.length : Int) != (l1.length : Int)) = false := bne_eq_false_iff_eq.mpr c3
    have c3b2 : (l0.length == l1.length) = true := by first | simpa using c3 | (simp at c3 ⊢; omega)
    clear c3
    have H' := Aside0.mk H
    clear H
    go_enter Try.func12, Try.ntmps12
    go_wp2
    repeat (go_quiet (fail); try go_wp2)
    go_loopg [5] k (fun kq v5 w' => ∃ (x5_1 : Int), v5 = .int .i64 x5_1 ∧ Aside0 (retconkit_SameMarks.l0 kq l0 l1 x5_1 = some r) ∧ Aside0 (kq ≤ k) ∧ Drawn0 w w')
    case atStart => exact ⟨(0), (by first | rfl | (simp; done) | (simp [*]; done)), H', ⟨Nat.le_refl _⟩, by repeat (first | exact Drawn0.refl _ | apply Drawn0.step)⟩
    case round =>
      clear H'
      try clear c1
      try clear p2
      try clear c3
      try clear c3b0
      try clear c3b1
      try clear c3b2
      obtain ⟨x5_1, rfl, HA, HK1, ⟨m1, rfl⟩⟩ := hrel
      cases gk with
      | zero => exact absurd HA.out (by simp [retconkit_SameMarks.l0])
      | succ k1 =>
        have H := HA.out
        clear HA
        simp only [retconkit_SameMarks.l0] at H
        by_cases c4 : x5_1 < (l0.length : Int)
        · rw [if_pos c4] at H
          have c4b0 : decide (x5_1 < (l0.length : Int)) = true := decide_eq_true c4
          clear c4
          by_cases c5 : 0 ≤ x5_1
          · rw [if_pos c5] at H
            have c5b0 : decide (0 ≤ x5_1) = true := decide_eq_true c5
            clear c5
            by_cases c6 : x5_1 < (l1.length : Int)
            · rw [if_pos c6] at H
              have c6b0 : decide (x5_1 < (l1.length : Int)) = true := decide_eq_true c6
              clear c6
              by_cases c7 : (!(((rd_T27 l0 x5_1).f0) == ((rd_T27 l1 x5_1).f0)) || ((!(((rd_T27 l0 x5_1).f1.f0) == ((rd_T27 l1 x5_1).f1.f0)) || (!(((rd_T27 l0 x5_1).f1.f1) == ((rd_T27 l1 x5_1).f1.f1)) || (!(((rd_T27 l0 x5_1).f1.f2) == ((rd_T27 l1 x5_1).f1.f2)) || (!(((rd_T27 l0 x5_1).f1.f3) == ((rd_T27 l1 x5_1).f1.f3)) || (!(((rd_T27 l0 x5_1).f1.f4) == ((rd_T27 l1 x5_1).f1.f4)) || (!(((rd_T27 l0 x5_1).f1.f5) == ((rd_T27 l1 x5_1).f1.f5)) || (!(((rd_T27 l0 x5_1).f1.f6) == ((rd_T27 l1 x5_1).f1.f6)) || (!(((rd_T27 l0 x5_1).f1.f7) == ((rd_T27 l1 x5_1).f1.f7)) || (!(((rd_T27 l0 x5_1).f1.f8) == ((rd_T27 l1 x5_1).f1.f8)) || (!(((rd_T27 l0 x5_1).f1.f9) == ((rd_T27 l1 x5_1).f1.f9)) || (!(((rd_T27 l0 x5_1).f1.f10) == ((rd_T27 l1 x5_1).f1.f10)) || (!(((rd_T27 l0 x5_1).f1.f11) == ((rd_T27 l1 x5_1).f1.f11)) || (!(((rd_T27 l0 x5_1).f1.f12) == ((rd_T27 l1 x5_1).f1.f12)) || (!(((rd_T27 l0 x5_1).f1.f13) == ((rd_T27 l1 x5_1).f1.f13)) || (!(((rd_T27 l0 x5_1).f1.f14) == ((rd_T27 l1 x5_1).f1.f14)) || (!(((rd_T27 l0 x5_1).f1.f15) == ((rd_T27 l1 x5_1).f1.f15)) || (!(((rd_T27 l0 x5_1).f1.f16) == ((rd_T27 l1 x5_1).f1.f16)) || (!(((rd_T27 l0 x5_1).f1.f17) == ((rd_T27 l1 x5_1).f1.f17)) || (!(((rd_T27 l0 x5_1).f1.f18) == ((rd_T27 l1 x5_1).f1.f18)) || (!(((rd_T27 l0 x5_1).f1.f19) == ((rd_T27 l1 x5_1).f1.f19)) || (!(((rd_T27 l0 x5_1).f1.f20) == ((rd_T27 l1 x5_1).f1.f20)) || (!(((rd_T27 l0 x5_1).f1.f21) == ((rd_T27 l1 x5_1).f1.f21)) || (!(((rd_T27 l0 x5_1).f1.f22) == ((rd_T27 l1 x5_1).f1.f22)) || (!(((rd_T27 l0 x5_1).f1.f23) == ((rd_T27 l1 x5_1).f1.f23)) || (!(((rd_T27 l0 x5_1).f1.f24) == ((rd_T27 l1 x5_1).f1.f24)) || (!(((rd_T27 l0 x5_1).f1.f25) == ((rd_T27 l1 x5_1).f1.f25)) || (!(((rd_T27 l0 x5_1).f1.f26) == ((rd_T27 l1 x5_1).f1.f26)) || (!(((rd_T27 l0 x5_1).f1.f27) == ((rd_T27 l1 x5_1).f1.f27)) || (!(((rd_T27 l0 x5_1).f1.f28) == ((rd_T27 l1 x5_1).f1.f28)) || (!(((rd_T27 l0 x5_1).f1.f29) == ((rd_T27 l1 x5_1).f1.f29)) || (!(((rd_T27 l0 x5_1).f1.f30) == ((rd_T27 l1 x5_1).f1.f30)) || (!(((rd_T27 l0 x5_1).f1.f31) == ((rd_T27 l1 x5_1).f1.f31)))))))))))))))))))))))))))))))))))) = true
              · rw [if_pos c7] at H
                have c7b0 : (!(((rd_T27 l0 x5_1).f0) == ((rd_T27 l1 x5_1).f0)) || ((!(((rd_T27 l0 x5_1).f1.f0) == ((rd_T27 l1 x5_1).f1.f0)) || (!(((rd_T27 l0 x5_1).f1.f1) == ((rd_T27 l1 x5_1).f1.f1)) || (!(((rd_T27 l0 x5_1).f1.f2) == ((rd_T27 l1 x5_1).f1.f2)) || (!(((rd_T27 l0 x5_1).f1.f3) == ((rd_T27 l1 x5_1).f1.f3)) || (!(((rd_T27 l0 x5_1).f1.f4) == ((rd_T27 l1 x5_1).f1.f4)) || (!(((rd_T27 l0 x5_1).f1.f5) == ((rd_T27 l1 x5_1).f1.f5)) || (!(((rd_T27 l0 x5_1).f1.f6) == ((rd_T27 l1 x5_1).f1.f6)) || (!(((rd_T27 l0 x5_1).f1.f7) == ((rd_T27 l1 x5_1).f1.f7)) || (!(((rd_T27 l0 x5_1).f1.f8) == ((rd_T27 l1 x5_1).f1.f8)) || (!(((rd_T27 l0 x5_1).f1.f9) == ((rd_T27 l1 x5_1).f1.f9)) || (!(((rd_T27 l0 x5_1).f1.f10) == ((rd_T27 l1 x5_1).f1.f10)) || (!(((rd_T27 l0 x5_1).f1.f11) == ((rd_T27 l1 x5_1).f1.f11)) || (!(((rd_T27 l0 x5_1).f1.f12) == ((rd_T27 l1 x5_1).f1.f12)) || (!(((rd_T27 l0 x5_1).f1.f13) == ((rd_T27 l1 x5_1).f1.f13)) || (!(((rd_T27 l0 x5_1).f1.f14) == ((rd_T27 l1 x5_1).f1.f14)) || (!(((rd_T27 l0 x5_1).f1.f15) == ((rd_T27 l1 x5_1).f1.f15)) || (!(((rd_T27 l0 x5_1).f1.f16) == ((rd_T27 l1 x5_1).f1.f16)) || (!(((rd_T27 l0 x5_1).f1.f17) == ((rd_T27 l1 x5_1).f1.f17)) || (!(((rd_T27 l0 x5_1).f1.f18) == ((rd_T27 l1 x5_1).f1.f18)) || (!(((rd_T27 l0 x5_1).f1.f19) == ((rd_T27 l1 x5_1).f1.f19)) || (!(((rd_T27 l0 x5_1).f1.f20) == ((rd_T27 l1 x5_1).f1.f20)) || (!(((rd_T27 l0 x5_1).f1.f21) == ((rd_T27 l1 x5_1).f1.f21)) || (!(((rd_T27 l0 x5_1).f1.f22) == ((rd_T27 l1 x5_1).f1.f22)) || (!(((rd_T27 l0 x5_1).f1.f23) == ((rd_T27 l1 x5_1).f1.f23)) || (!(((rd_T27 l0 x5_1).f1.f24) == ((rd_T27 l1 x5_1).f1.f24)) || (!(((rd_T27 l0 x5_1).f1.f25) == ((rd_T27 l1 x5_1).f1.f25)) || (!(((rd_T27 l0 x5_1).f1.f26) == ((rd_T27 l1 x5_1).f1.f26)) || (!(((rd_T27 l0 x5_1).f1.f27) == ((rd_T27 l1 x5_1).f1.f27)) || (!(((rd_T27 l0 x5_1).f1.f28) == ((rd_T27 l1 x5_1).f1.f28)) || (!(((rd_T27 l0 x5_1).f1.f29) == ((rd_T27 l1 x5_1).f1.f29)) || (!(((rd_T27 l0 x5_1).f1.f30) == ((rd_T27 l1 x5_1).f1.f30)) || (!(((rd_T27 l0 x5_1).f1.f31) == ((rd_T27 l1 x5_1).f1.f31)))))))))))))))))))))))))))))))))))) = true := c7
                clear c7
                obtain rfl := Option.some.inj H
                have p128 : 0 ≤ (x5_1 : Int) := of_decide_eq_true (by first | (with_reducible assumption) | assumption)
                have q128 : x5_1 < (l0.length : Int) := of_decide_eq_true (by first | (with_reducible assumption) | assumption)
                obtain ⟨ad128, e128, hx128_0, hx128_1, hx128_2, hx128_3, hx128_4, hx128_5, hx128_6, hx128_7, hx128_8, hx128_9, hx128_10, hx128_11, hx128_12, hx128_13, hx128_14, hx128_15, hx128_16, hx128_17, hx128_18, hx128_19, hx128_20, hx128_21, hx128_22, hx128_23, hx128_24, hx128_25, hx128_26, hx128_27, hx128_28, hx128_29, hx128_30, hx128_31, hx128_32⟩ := at_T27 HR0.out x5_1 p128 q128
                cases e128
                (first | (obtain ⟨hr128, hrn128⟩ := row27_mk hx128_0 hx128_1 hx128_2 hx128_3 hx128_4 hx128_5 hx128_6 hx128_7 hx128_8 hx128_9 hx128_10 hx128_11 hx128_12 hx128_13 hx128_14 hx128_15 hx128_16 hx128_17 hx128_18 hx128_19 hx128_20 hx128_21 hx128_22 hx128_23 hx128_24 hx128_25 hx128_26 hx128_27 hx128_28 hx128_29 hx128_30 hx128_31 hx128_32; clear hx128_1 hx128_2 hx128_3 hx128_4 hx128_5 hx128_6 hx128_7 hx128_8 hx128_9 hx128_10 hx128_11 hx128_12 hx128_13 hx128_14 hx128_15 hx128_16 hx128_17 hx128_18 hx128_19 hx128_20 hx128_21 hx128_22 hx128_23 hx128_24 hx128_25 hx128_26 hx128_27 hx128_28 hx128_29 hx128_30 hx128_31 hx128_32) | skip)
                replace p128 := eq_true p128
                replace q128 := eq_true q128
                have p129 : 0 ≤ (x5_1 : Int) := of_decide_eq_true (by first | (with_reducible assumption) | assumption)
                have q129 : x5_1 < (l1.length : Int) := of_decide_eq_true (by first | (with_reducible assumption) | assumption)
                obtain ⟨ad129, e129, hx129_0, hx129_1, hx129_2, hx129_3, hx129_4, hx129_5, hx129_6, hx129_7, hx129_8, hx129_9, hx129_10, hx129_11, hx129_12, hx129_13, hx129_14, hx129_15, hx129_16, hx129_17, hx129_18, hx129_19, hx129_20, hx129_21, hx129_22, hx129_23, hx129_24, hx129_25, hx129_26, hx129_27, hx129_28, hx129_29, hx129_30, hx129_31, hx129_32⟩ := at_T27 HR1.out x5_1 p129 q129
                cases e129
                (first | (obtain ⟨hr129, hrn129⟩ := row27_mk hx129_0 hx129_1 hx129_2 hx129_3 hx129_4 hx129_5 hx129_6 hx129_7 hx129_8 hx129_9 hx129_10 hx129_11 hx129_12 hx129_13 hx129_14 hx129_15 hx129_16 hx129_17 hx129_18 hx129_19 hx129_20 hx129_21 hx129_22 hx129_23 hx129_24 hx129_25 hx129_26 hx129_27 hx129_28 hx129_29 hx129_30 hx129_31 hx129_32; clear hx129_1 hx129_2 hx129_3 hx129_4 hx129_5 hx129_6 hx129_7 hx129_8 hx129_9 hx129_10 hx129_11 hx129_12 hx129_13 hx129_14 hx129_15 hx129_16 hx129_17 hx129_18 hx129_19 hx129_20 hx129_21 hx129_22 hx129_23 hx129_24 hx129_25 hx129_26 hx129_27 hx129_28 hx129_29 hx129_30 hx129_31 hx129_32) | skip)
                replace p129 := eq_true p129
                replace q129 := eq_true q129
                go_wp2
                repeat (go_quiet (fail); try go_wp2)
                go_ret
                exact ⟨by first | rfl | (simp; done) | (simp [*]; done), by repeat (first | exact Drawn0.refl _ | apply Drawn0.step)⟩
              · rw [if_neg c7] at H
                have c7b0 : (!(((rd_T27 l0 x5_1).f0) == ((rd_T27 l1 x5_1).f0)) || ((!(((rd_T27 l0 x5_1).f1.f0) == ((rd_T27 l1 x5_1).f1.f0)) || (!(((rd_T27 l0 x5_1).f1.f1) == ((rd_T27 l1 x5_1).f1.f1)) || (!(((rd_T27 l0 x5_1).f1.f2) == ((rd_T27 l1 x5_1).f1.f2)) || (!(((rd_T27 l0 x5_1).f1.f3) == ((rd_T27 l1 x5_1).f1.f3)) || (!(((rd_T27 l0 x5_1).f1.f4) == ((rd_T27 l1 x5_1).f1.f4)) || (!(((rd_T27 l0 x5_1).f1.f5) == ((rd_T27 l1 x5_1).f1.f5)) || (!(((rd_T27 l0 x5_1).f1.f6) == ((rd_T27 l1 x5_1).f1.f6)) || (!(((rd_T27 l0 x5_1).f1.f7) == ((rd_T27 l1 x5_1).f1.f7)) || (!(((rd_T27 l0 x5_1).f1.f8) == ((rd_T27 l1 x5_1).f1.f8)) || (!(((rd_T27 l0 x5_1).f1.f9) == ((rd_T27 l1 x5_1).f1.f9)) || (!(((rd_T27 l0 x5_1).f1.f10) == ((rd_T27 l1 x5_1).f1.f10)) || (!(((rd_T27 l0 x5_1).f1.f11) == ((rd_T27 l1 x5_1).f1.f11)) || (!(((rd_T27 l0 x5_1).f1.f12) == ((rd_T27 l1 x5_1).f1.f12)) || (!(((rd_T27 l0 x5_1).f1.f13) == ((rd_T27 l1 x5_1).f1.f13)) || (!(((rd_T27 l0 x5_1).f1.f14) == ((rd_T27 l1 x5_1).f1.f14)) || (!(((rd_T27 l0 x5_1).f1.f15) == ((rd_T27 l1 x5_1).f1.f15)) || (!(((rd_T27 l0 x5_1).f1.f16) == ((rd_T27 l1 x5_1).f1.f16)) || (!(((rd_T27 l0 x5_1).f1.f17) == ((rd_T27 l1 x5_1).f1.f17)) || (!(((rd_T27 l0 x5_1).f1.f18) == ((rd_T27 l1 x5_1).f1.f18)) || (!(((rd_T27 l0 x5_1).f1.f19) == ((rd_T27 l1 x5_1).f1.f19)) || (!(((rd_T27 l0 x5_1).f1.f20) == ((rd_T27 l1 x5_1).f1.f20)) || (!(((rd_T27 l0 x5_1).f1.f21) == ((rd_T27 l1 x5_1).f1.f21)) || (!(((rd_T27 l0 x5_1).f1.f22) == ((rd_T27 l1 x5_1).f1.f22)) || (!(((rd_T27 l0 x5_1).f1.f23) == ((rd_T27 l1 x5_1).f1.f23)) || (!(((rd_T27 l0 x5_1).f1.f24) == ((rd_T27 l1 x5_1).f1.f24)) || (!(((rd_T27 l0 x5_1).f1.f25) == ((rd_T27 l1 x5_1).f1.f25)) || (!(((rd_T27 l0 x5_1).f1.f26) == ((rd_T27 l1 x5_1).f1.f26)) || (!(((rd_T27 l0 x5_1).f1.f27) == ((rd_T27 l1 x5_1).f1.f27)) || (!(((rd_T27 l0 x5_1).f1.f28) == ((rd_T27 l1 x5_1).f1.f28)) || (!(((rd_T27 l0 x5_1).f1.f29) == ((rd_T27 l1 x5_1).f1.f29)) || (!(((rd_T27 l0 x5_1).f1.f30) == ((rd_T27 l1 x5_1).f1.f30)) || (!(((rd_T27 l0 x5_1).f1.f31) == ((rd_T27 l1 x5_1).f1.f31)))))))))))))))))))))))))))))))))))) = false := by simpa using c7
                clear c7
                have H' := Aside0.mk H
                clear H
                have p128 : 0 ≤ (x5_1 : Int) := of_decide_eq_true (by first | (with_reducible assumption) | assumption)
                have q128 : x5_1 < (l0.length : Int) := of_decide_eq_true (by first | (with_reducible assumption) | assumption)
                obtain ⟨ad128, e128, hx128_0, hx128_1, hx128_2, hx128_3, hx128_4, hx128_5, hx128_6, hx128_7, hx128_8, hx128_9, hx128_10, hx128_11, hx128_12, hx128_13, hx128_14, hx128_15, hx128_16, hx128_17, hx128_18, hx128_19, hx128_20, hx128_21, hx128_22, hx128_23, hx128_24, hx128_25, hx128_26, hx128_27, hx128_28, hx128_29, hx128_30, hx128_31, hx128_32⟩ := at_T27 HR0.out x5_1 p128 q128
                cases e128
                (first | (obtain ⟨hr128, hrn128⟩ := row27_mk hx128_0 hx128_1 hx128_2 hx128_3 hx128_4 hx128_5 hx128_6 hx128_7 hx128_8 hx128_9 hx128_10 hx128_11 hx128_12 hx128_13 hx128_14 hx128_15 hx128_16 hx128_17 hx128_18 hx128_19 hx128_20 hx128_21 hx128_22 hx128_23 hx128_24 hx128_25 hx128_26 hx128_27 hx128_28 hx128_29 hx128_30 hx128_31 hx128_32; clear hx128_1 hx128_2 hx128_3 hx128_4 hx128_5 hx128_6 hx128_7 hx128_8 hx128_9 hx128_10 hx128_11 hx128_12 hx128_13 hx128_14 hx128_15 hx128_16 hx128_17 hx128_18 hx128_19 hx128_20 hx128_21 hx128_22 hx128_23 hx128_24 hx128_25 hx128_26 hx128_27 hx128_28 hx128_29 hx128_30 hx128_31 hx128_32) | skip)
                replace p128 := eq_true p128
                replace q128 := eq_true q128
                have p129 : 0 ≤ (x5_1 : Int) := of_decide_eq_true (by first | (with_reducible assumption) | assumption)
                have q129 : x5_1 < (l1.length : Int) := of_decide_eq_true (by first | (with_reducible assumption) | assumption)
                obtain ⟨ad129, e129, hx129_0, hx129_1, hx129_2, hx129_3, hx129_4, hx129_5, hx129_6, hx129_7, hx129_8, hx129_9, hx129_10, hx129_11, hx129_12, hx129_13, hx129_14, hx129_15, hx129_16, hx129_17, hx129_18, hx129_19, hx129_20, hx129_21, hx129_22, hx129_23, hx129_24, hx129_25, hx129_26, hx129_27, hx129_28, hx129_29, hx129_30, hx129_31, hx129_32⟩ := at_T27 HR1.out x5_1 p129 q129
                cases e129
                (first | (obtain ⟨hr129, hrn129⟩ := row27_mk hx129_0 hx129_1 hx129_2 hx129_3 hx129_4 hx129_5 hx129_6 hx129_7 hx129_8 hx129_9 hx129_10 hx129_11 hx129_12 hx129_13 hx129_14 hx129_15 hx129_16 hx129_17 hx129_18 hx129_19 hx129_20 hx129_21 hx129_22 hx129_23 hx129_24 hx129_25 hx129_26 hx129_27 hx129_28 hx129_29 hx129_30 hx129_31 hx129_32; clear hx129_1 hx129_2 hx129_3 hx129_4 hx129_5 hx129_6 hx129_7 hx129_8 hx129_9 hx129_10 hx129_11 hx129_12 hx129_13 hx129_14 hx129_15 hx129_16 hx129_17 hx129_18 hx129_19 hx129_20 hx129_21 hx129_22 hx129_23 hx129_24 hx129_25 hx129_26 hx129_27 hx129_28 hx129_29 hx129_30 hx129_31 hx129_32) | skip)
                replace p129 := eq_true p129
                replace q129 := eq_true q129
                go_wp2
                repeat (go_quiet (fail); try go_wp2)
                go_roundg k1
                case measure => have := HK1.out; omega
                case rel => exact ⟨(wrap64 (x5_1 + 1)), (by first | rfl | (simp; done) | (simp [*]; done)), H', ⟨by have := HK1.out; omega⟩, by repeat (first | exact Drawn0.refl _ | apply Drawn0.step)⟩
            · rw [if_neg c6] at H
              exact absurd H (by simp)
          · rw [if_neg c5] at H
            exact absurd H (by simp)
        · rw [if_neg c4] at H
          have c4b0 : decide (x5_1 < (l0.length : Int)) = false := decide_eq_false c4
          clear c4
          obtain rfl := Option.some.inj H
          go_wp2
          repeat (go_quiet (fail); try go_wp2)
          go_ret
          exact ⟨by first | rfl | (simp; done) | (simp [*]; done), by repeat (first | exact Drawn0.refl _ | apply Drawn0.step)⟩
  · rw [if_neg c3] at H
    have c3b0 : ((l0.length : Int) == (l1.length : Int)) = false := beq_eq_false_iff_ne.mpr c3
    have c3b1 : ((l0.length : Int) != (l1.length : Int)) = true := bne_iff_ne.mpr c3
    have c3b2 : (l0.length == l1.length) = false := by first | simpa using c3 | (simp at c3 ⊢; omega)
    obtain rfl := Option.some.inj H
    go_enter Try.func12, Try.ntmps12
    go_wp2
    repeat (go_quiet (fail); try go_wp2)
    go_ret
    exact ⟨by first | rfl | (simp; done) | (simp [*]; done), by repeat (first | exact Drawn0.refl _ | apply Drawn0.step)⟩

end Go.Proofs.Ytgippbgcmmjnbaa.XB
