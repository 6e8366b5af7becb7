-- Printed by xprint.py (a program of this work, over the kit's print.py). Lean checks it.
import Derived.Test.YtgippbgcmmjnbaaXB0
import Derived.Test.YtgippbgcmmjnbaaXBL
namespace Go.Proofs.Ytgippbgcmmjnbaa.XB
open Go.RowKit Go.Proofs.YtgippbgcmmjnbaaW.PrintWords Go.Proofs.YtgippbgcmmjnbaaW.PrintLast Go.Proofs.YtgippbgcmmjnbaaW.PrintMore
attribute [local go_sem] max2_int min2_int max_two min_two max_three min_three max_four min_four   -- for this text's walks alone
set_option linter.unusedVariables false
set_option linter.unusedSimpArgs false
attribute [local go_sem ↓ high] ld27
attribute [local go_sem high] LD27.new
/-! ### retconref23_May: function 21 -/
mutual
def retconref23_May.j0 : Nat → List (S27) → Int → Bool → Option (Int)
  | 0, _, _, _ => none
  | k + 1, x0, x1, x11 => if x11 = true then (some 5) else (retconref23_May.l0 k x0 x1 0)
def retconref23_May.l0 : Nat → List (S27) → Int → Int → Option (Int)
  | 0, _, _, _ => none
  | k + 1, x0, x1, x5 => if x5 < (x0.length : Int) then (if 0 ≤ x5 then (if ((rd_T27 x0 x5).f0) < 1 then (retconref23_May.j2 k x0 x1 x5 true) else (if ((rd_T27 x0 x5).f0) > x1 then (retconref23_May.j2 k x0 x1 x5 true) else (if (Int.tmod ((rd_T27 x0 x5).f0) 8) = 0 then (if x5 > 0 then (if 0 ≤ (wrap64 (x5 - 1)) then (if (wrap64 (x5 - 1)) < (x0.length : Int) then (retconref23_May.j2 k x0 x1 x5 (decide (((rd_T27 x0 (wrap64 (x5 - 1))).f0) ≥ ((rd_T27 x0 x5).f0)))) else (none)) else (none)) else (retconref23_May.j2 k x0 x1 x5 false)) else (retconref23_May.j2 k x0 x1 x5 true)))) else (none)) else (some 0)
def retconref23_May.j2 : Nat → List (S27) → Int → Int → Bool → Option (Int)
  | 0, _, _, _, _ => none
  | k + 1, x0, x1, x5, x59 => if x59 = true then (some 2) else (retconref23_May.l0 k x0 x1 (wrap64 (x5 + 1)))
end
def retconref23_May.f (k : Nat) (l0 : List (S27)) (a1 : Int) : Option (Int) := if a1 < 0 then (retconref23_May.j0 k l0 a1 true) else (retconref23_May.j0 k l0 a1 (decide (a1 > 500)))
theorem retconref23_May.mono_l : ∀ k, (∀ y0 y1 y2, LeO (retconref23_May.j0 k y0 y1 y2) (retconref23_May.j0 (k + 1) y0 y1 y2)) ∧ (∀ y0 y1 y2, LeO (retconref23_May.l0 k y0 y1 y2) (retconref23_May.l0 (k + 1) y0 y1 y2)) ∧ (∀ y0 y1 y2 y3, LeO (retconref23_May.j2 k y0 y1 y2 y3) (retconref23_May.j2 (k + 1) y0 y1 y2 y3))
  | 0 => ⟨fun _ _ _ r h => by simp [retconref23_May.j0] at h, fun _ _ _ r h => by simp [retconref23_May.l0] at h, fun _ _ _ _ r h => by simp [retconref23_May.j2] at h⟩
  | k + 1 => by
    obtain ⟨ih0, ih1, ih2⟩ := retconref23_May.mono_l k
    refine ⟨?_, ?_, ?_⟩
    · intro y0 y1 y2
      unfold retconref23_May.j0
      repeat' first
      | (with_reducible exact ih0 _ _ _)
      | (with_reducible exact ih1 _ _ _)
      | (with_reducible exact ih2 _ _ _ _)
      | (with_reducible exact LeO.refl _)
      | (with_reducible exact LeO.none _)
      | (with_reducible refine LeO.ite ?_ ?_)
      | (with_reducible refine LeO.bind ?_ (fun _ => ?_))
      | exact ih0 _ _ _
      | exact ih1 _ _ _
      | exact ih2 _ _ _ _
      | exact LeO.none _
      | refine LeO.ite ?_ ?_
      | refine LeO.bind ?_ (fun _ => ?_)
    · intro y0 y1 y2
      unfold retconref23_May.l0
      repeat' first
      | (with_reducible exact ih0 _ _ _)
      | (with_reducible exact ih1 _ _ _)
      | (with_reducible exact ih2 _ _ _ _)
      | (with_reducible exact LeO.refl _)
      | (with_reducible exact LeO.none _)
      | (with_reducible refine LeO.ite ?_ ?_)
      | (with_reducible refine LeO.bind ?_ (fun _ => ?_))
      | exact ih0 _ _ _
      | exact ih1 _ _ _
      | exact ih2 _ _ _ _
      | exact LeO.none _
      | refine LeO.ite ?_ ?_
      | refine LeO.bind ?_ (fun _ => ?_)
    · intro y0 y1 y2 y3
      unfold retconref23_May.j2
      repeat' first
      | (with_reducible exact ih0 _ _ _)
      | (with_reducible exact ih1 _ _ _)
      | (with_reducible exact ih2 _ _ _ _)
      | (with_reducible exact LeO.refl _)
      | (with_reducible exact LeO.none _)
      | (with_reducible refine LeO.ite ?_ ?_)
      | (with_reducible refine LeO.bind ?_ (fun _ => ?_))
      | exact ih0 _ _ _
      | exact ih1 _ _ _
      | exact ih2 _ _ _ _
      | exact LeO.none _
      | refine LeO.ite ?_ ?_
      | refine LeO.bind ?_ (fun _ => ?_)
theorem retconref23_May.mono : ∀ a0 a1 k, LeO (retconref23_May.f k a0 a1) (retconref23_May.f (k + 1) a0 a1) := by
  intro a0 a1 k
  obtain ⟨ih0, ih1, ih2⟩ := retconref23_May.mono_l k
  unfold retconref23_May.f
  repeat' first
      | (with_reducible exact ih0 _ _ _)
      | (with_reducible exact ih1 _ _ _)
      | (with_reducible exact ih2 _ _ _ _)
      | (with_reducible exact LeO.refl _)
      | (with_reducible exact LeO.none _)
      | (with_reducible refine LeO.ite ?_ ?_)
      | (with_reducible refine LeO.bind ?_ (fun _ => ?_))
      | exact ih0 _ _ _
      | exact ih1 _ _ _
      | exact ih2 _ _ _ _
      | exact LeO.none _
      | refine LeO.ite ?_ ?_
      | refine LeO.bind ?_ (fun _ => ?_)
set_option maxHeartbeats 8000000 in
set_option maxRecDepth 100000 in
theorem retconref23_May.calls (k : Nat) (A0 : Option Addr) (c0 : Nat) (l0 : List (S27)) (a1 : Int) (r : Int) (w : World) (hr0 : Kd.C k27 w A0 l0.length l0) (hc0 : l0.length ≤ c0) (h : retconref23_May.f k l0 a1 = some r) :
    Calls Try.prog 21 #[.slice A0 l0.length c0, .int .i64 a1] w fun e w' => e = .returned (.int .i64 r) ∧ Drawn0 w w' := by
  have HR0 := Aside0.mk hr0
  have HC0 := Aside0.mk hc0
  clear hr0 hc0
  have H : (if a1 < 0 then (retconref23_May.j0 k l0 a1 true) else (retconref23_May.j0 k l0 a1 (decide (a1 > 500)))) = some r := h
  clear h
  have HC3 := Aside0.mk H
  clear H
  go_enter Try.func21, Try.ntmps21
  go_upto_region 1 with (fail)
  repeat (go_quiet (fail); go_upto_region 1 with (fail))
  go_cut [11] (fun v11 wc => ∃ (kq : Nat) (x11_2 : Bool), v11 = .bool x11_2 ∧ Aside0 (retconref23_May.j0 kq l0 a1 x11_2 = some r) ∧ Aside0 (kq ≤ k) ∧ Drawn0 w wc)
  case first =>
    have H := HC3.out
    clear HC3
    by_cases c4 : a1 < 0
    · rw [if_pos c4] at H
      have c4b0 : decide (a1 < 0) = true := decide_eq_true c4
      clear c4
      (first | rw [c4b0] | (simp only [i64_w, i32_w]; rw [c4b0]) | skip)
      have H' := Aside0.mk H
      clear H
      go_wp2
      repeat (go_quiet (fail); try go_wp2)
      go_meet
      case rel => exact ⟨_, (true), (by first | rfl | (simp; done) | (simp [*]; done)), H', ⟨by first | omega | exact Nat.le_refl _⟩, by repeat (first | exact Drawn0.refl _ | apply Drawn0.step)⟩
    · rw [if_neg c4] at H
      have c4b0 : decide (a1 < 0) = false := decide_eq_false c4
      clear c4
      (first | rw [c4b0] | (simp only [i64_w, i32_w]; rw [c4b0]) | skip)
      have H' := Aside0.mk H
      clear H
      go_wp2
      repeat (go_quiet (fail); try go_wp2)
      go_meet
      case rel => exact ⟨_, (decide (a1 > 500)), (by first | rfl | (simp; done) | (simp [*]; done)), H', ⟨by first | omega | exact Nat.le_refl _⟩, by repeat (first | exact Drawn0.refl _ | apply Drawn0.step)⟩
  case rest =>
    clear HC3
    try clear c2
    try clear p2
    try clear c4
    try clear c4b0
    obtain ⟨kq, x11_2, rfl, HA, HJ2, ⟨mc2, rfl⟩⟩ := hcut
    cases kq with
    | zero => exact absurd HA.out (by simp [retconref23_May.j0])
    | succ kj2 =>
      have H := HA.out
      clear HA
      simp only [retconref23_May.j0] at H
      by_cases c5 : x11_2 = true
      · subst c5
        have H1 : (some 5) = some r := by rw [if_pos rfl] at H; exact H
        clear H
        have H := H1
        clear H1
        obtain rfl := Option.some.inj H
        go_wp2
        repeat (go_quiet (fail); try go_wp2)
        go_ret
        exact ⟨by first | rfl | (simp; done) | (simp [*]; done), by repeat (first | exact Drawn0.refl _ | apply Drawn0.step)⟩
      · replace c5 := Bool.eq_false_iff.mpr c5
        subst c5
        have H1 : (retconref23_May.l0 kj2 l0 a1 0) = some r := by rw [if_neg (show ¬ (false = true) by decide)] at H; exact H
        clear H
        have H := H1
        clear H1
        have H' := Aside0.mk H
        clear H
        go_wp2
        repeat (go_quiet (fail); try go_wp2)
        go_loopg [5] kj2 (fun kq v5 w' => ∃ (x5_2 : Int), v5 = .int .i64 x5_2 ∧ Aside0 (retconref23_May.l0 kq l0 a1 x5_2 = some r) ∧ Aside0 (kq ≤ kj2) ∧ Drawn0 w w')
        case atStart => exact ⟨(0), (by first | rfl | (simp; done) | (simp [*]; done)), H', ⟨Nat.le_refl _⟩, by repeat (first | exact Drawn0.refl _ | apply Drawn0.step)⟩
        case round =>
          clear H'
          try clear c2
          try clear p2
          try clear c4
          try clear c4b0
          try clear c5
          try clear p2
          obtain ⟨x5_2, rfl, HA, HK2, ⟨m2, rfl⟩⟩ := hrel
          cases gk with
          | zero => exact absurd HA.out (by simp [retconref23_May.l0])
          | succ k2 =>
            have H := HA.out
            clear HA
            simp only [retconref23_May.l0] at H
            by_cases c6 : x5_2 < (l0.length : Int)
            · rw [if_pos c6] at H
              have c6b0 : decide (x5_2 < (l0.length : Int)) = true := decide_eq_true c6
              clear c6
              have HC7 := Aside0.mk H
              clear H
              go_upto_region 6 with (fail)
              repeat (go_quiet (fail); go_upto_region 6 with (fail))
              go_cut [59] (fun v59 wc => ∃ (kq : Nat) (x59_6 : Bool), v59 = .bool x59_6 ∧ Aside0 (retconref23_May.j2 kq l0 a1 x5_2 x59_6 = some r) ∧ Aside0 (kq ≤ k2) ∧ Drawn0 w wc)
              case first =>
                have H := HC7.out
                clear HC7
                by_cases c8 : 0 ≤ x5_2
                · rw [if_pos c8] at H
                  have c8b0 : decide (0 ≤ x5_2) = true := decide_eq_true c8
                  clear c8
                  (first | rw [c8b0] | (simp only [i64_w, i32_w]; rw [c8b0]) | skip)
                  by_cases c9 : ((rd_T27 l0 x5_2).f0) < 1
                  · rw [if_pos c9] at H
                    have c9b0 : decide (((rd_T27 l0 x5_2).f0) < 1) = true := decide_eq_true c9
                    clear c9
                    have H' := Aside0.mk H
                    clear H
                    have p112 : 0 ≤ (x5_2 : Int) := of_decide_eq_true (by first | (with_reducible assumption) | assumption)
                    have q112 : x5_2 < (l0.length : Int) := of_decide_eq_true (by first | (with_reducible assumption) | assumption)
                    obtain ⟨ad112, e112, hx112_0, hx112_1, hx112_2, hx112_3, hx112_4, hx112_5, hx112_6, hx112_7, hx112_8, hx112_9, hx112_10, hx112_11, hx112_12, hx112_13, hx112_14, hx112_15, hx112_16, hx112_17, hx112_18, hx112_19, hx112_20, hx112_21, hx112_22, hx112_23, hx112_24, hx112_25, hx112_26, hx112_27, hx112_28, hx112_29, hx112_30, hx112_31, hx112_32⟩ := at_T27 HR0.out x5_2 p112 q112
                    cases e112
                    (first | (obtain ⟨hr112, hrn112⟩ := row27_mk hx112_0 hx112_1 hx112_2 hx112_3 hx112_4 hx112_5 hx112_6 hx112_7 hx112_8 hx112_9 hx112_10 hx112_11 hx112_12 hx112_13 hx112_14 hx112_15 hx112_16 hx112_17 hx112_18 hx112_19 hx112_20 hx112_21 hx112_22 hx112_23 hx112_24 hx112_25 hx112_26 hx112_27 hx112_28 hx112_29 hx112_30 hx112_31 hx112_32; clear hx112_1 hx112_2 hx112_3 hx112_4 hx112_5 hx112_6 hx112_7 hx112_8 hx112_9 hx112_10 hx112_11 hx112_12 hx112_13 hx112_14 hx112_15 hx112_16 hx112_17 hx112_18 hx112_19 hx112_20 hx112_21 hx112_22 hx112_23 hx112_24 hx112_25 hx112_26 hx112_27 hx112_28 hx112_29 hx112_30 hx112_31 hx112_32) | skip)
                    replace p112 := eq_true p112
                    replace q112 := eq_true q112
                    go_wp2
                    repeat (go_quiet (fail); try go_wp2)
                    go_meet
                    case rel => exact ⟨_, (true), (by first | rfl | (simp; done) | (simp [*]; done)), H', ⟨by have := HJ2.out; have := HK2.out; first | omega | exact Nat.le_refl _⟩, by repeat (first | exact Drawn0.refl _ | apply Drawn0.step)⟩
                  · rw [if_neg c9] at H
                    have c9b0 : decide (((rd_T27 l0 x5_2).f0) < 1) = false := decide_eq_false c9
                    clear c9
                    by_cases c10 : ((rd_T27 l0 x5_2).f0) > a1
                    · rw [if_pos c10] at H
                      have c10b0 : decide (a1 < ((rd_T27 l0 x5_2).f0)) = true := decide_eq_true c10
                      clear c10
                      have H' := Aside0.mk H
                      clear H
                      have p112 : 0 ≤ (x5_2 : Int) := of_decide_eq_true (by first | (with_reducible assumption) | assumption)
                      have q112 : x5_2 < (l0.length : Int) := of_decide_eq_true (by first | (with_reducible assumption) | assumption)
                      obtain ⟨ad112, e112, hx112_0, hx112_1, hx112_2, hx112_3, hx112_4, hx112_5, hx112_6, hx112_7, hx112_8, hx112_9, hx112_10, hx112_11, hx112_12, hx112_13, hx112_14, hx112_15, hx112_16, hx112_17, hx112_18, hx112_19, hx112_20, hx112_21, hx112_22, hx112_23, hx112_24, hx112_25, hx112_26, hx112_27, hx112_28, hx112_29, hx112_30, hx112_31, hx112_32⟩ := at_T27 HR0.out x5_2 p112 q112
                      cases e112
                      (first | (obtain ⟨hr112, hrn112⟩ := row27_mk hx112_0 hx112_1 hx112_2 hx112_3 hx112_4 hx112_5 hx112_6 hx112_7 hx112_8 hx112_9 hx112_10 hx112_11 hx112_12 hx112_13 hx112_14 hx112_15 hx112_16 hx112_17 hx112_18 hx112_19 hx112_20 hx112_21 hx112_22 hx112_23 hx112_24 hx112_25 hx112_26 hx112_27 hx112_28 hx112_29 hx112_30 hx112_31 hx112_32; clear hx112_1 hx112_2 hx112_3 hx112_4 hx112_5 hx112_6 hx112_7 hx112_8 hx112_9 hx112_10 hx112_11 hx112_12 hx112_13 hx112_14 hx112_15 hx112_16 hx112_17 hx112_18 hx112_19 hx112_20 hx112_21 hx112_22 hx112_23 hx112_24 hx112_25 hx112_26 hx112_27 hx112_28 hx112_29 hx112_30 hx112_31 hx112_32) | skip)
                      replace p112 := eq_true p112
                      replace q112 := eq_true q112
                      have p113 : 0 ≤ (x5_2 : Int) := of_decide_eq_true (by first | (with_reducible assumption) | assumption)
                      have q113 : x5_2 < (l0.length : Int) := of_decide_eq_true (by first | (with_reducible assumption) | assumption)
                      obtain ⟨ad113, e113, hx113_0, hx113_1, hx113_2, hx113_3, hx113_4, hx113_5, hx113_6, hx113_7, hx113_8, hx113_9, hx113_10, hx113_11, hx113_12, hx113_13, hx113_14, hx113_15, hx113_16, hx113_17, hx113_18, hx113_19, hx113_20, hx113_21, hx113_22, hx113_23, hx113_24, hx113_25, hx113_26, hx113_27, hx113_28, hx113_29, hx113_30, hx113_31, hx113_32⟩ := at_T27 HR0.out x5_2 p113 q113
                      obtain rfl : ad112 = ad113 := (by injection e113)
                      (first | (obtain ⟨hr113, hrn113⟩ := row27_mk hx113_0 hx113_1 hx113_2 hx113_3 hx113_4 hx113_5 hx113_6 hx113_7 hx113_8 hx113_9 hx113_10 hx113_11 hx113_12 hx113_13 hx113_14 hx113_15 hx113_16 hx113_17 hx113_18 hx113_19 hx113_20 hx113_21 hx113_22 hx113_23 hx113_24 hx113_25 hx113_26 hx113_27 hx113_28 hx113_29 hx113_30 hx113_31 hx113_32; clear hx113_1 hx113_2 hx113_3 hx113_4 hx113_5 hx113_6 hx113_7 hx113_8 hx113_9 hx113_10 hx113_11 hx113_12 hx113_13 hx113_14 hx113_15 hx113_16 hx113_17 hx113_18 hx113_19 hx113_20 hx113_21 hx113_22 hx113_23 hx113_24 hx113_25 hx113_26 hx113_27 hx113_28 hx113_29 hx113_30 hx113_31 hx113_32) | skip)
                      replace p113 := eq_true p113
                      replace q113 := eq_true q113
                      go_wp2
                      repeat (go_quiet (fail); try go_wp2)
                      go_meet
                      case rel => exact ⟨_, (true), (by first | rfl | (simp; done) | (simp [*]; done)), H', ⟨by have := HJ2.out; have := HK2.out; first | omega | exact Nat.le_refl _⟩, by repeat (first | exact Drawn0.refl _ | apply Drawn0.step)⟩
                    · rw [if_neg c10] at H
                      have c10b0 : decide (a1 < ((rd_T27 l0 x5_2).f0)) = false := decide_eq_false c10
                      clear c10
                      by_cases c11 : (Int.tmod ((rd_T27 l0 x5_2).f0) 8) = 0
                      · rw [if_pos c11] at H
                        have c11b0 : ((Int.tmod ((rd_T27 l0 x5_2).f0) 8) == 0) = true := beq_iff_eq.mpr c11
                        have c11b1 : ((Int.tmod ((rd_T27 l0 x5_2).f0) 8) != 0) = false := bne_eq_false_iff_eq.mpr c11
                        clear c11
                        by_cases c12 : x5_2 > 0
                        · rw [if_pos c12] at H
                          have c12b0 : decide (0 < x5_2) = true := decide_eq_true c12
                          clear c12
                          obtain ⟨ji13, hji13⟩ : ∃ j_ : Int, (wrap64 (x5_2 - 1)) = j_ := ⟨_, rfl⟩
                          replace H : (if 0 ≤ (ji13) then (if (ji13) < (l0.length : Int) then (retconref23_May.j2 k2 l0 a1 x5_2 (decide (((rd_T27 l0 (ji13)).f0) ≥ ((rd_T27 l0 x5_2).f0)))) else (none)) else (none)) = some r := by first | (rw [hji13] at H; exact H) | (simp only [hji13] at H ⊢; exact H)
                          have hji13w : (IntKind.i64.wrap (x5_2 - 1)) = ji13 := (i64_w _).trans hji13
                          by_cases c14 : 0 ≤ (ji13)
                          · rw [if_pos c14] at H
                            have c14b0 : decide (0 ≤ (ji13)) = true := decide_eq_true c14
                            clear c14
                            by_cases c15 : (ji13) < (l0.length : Int)
                            · rw [if_pos c15] at H
                              have c15b0 : decide ((ji13) < (l0.length : Int)) = true := decide_eq_true c15
                              clear c15
                              have H' := Aside0.mk H
                              clear H
                              have p112 : 0 ≤ (x5_2 : Int) := of_decide_eq_true (by first | (with_reducible assumption) | assumption)
                              have q112 : x5_2 < (l0.length : Int) := of_decide_eq_true (by first | (with_reducible assumption) | assumption)
                              obtain ⟨ad112, e112, hx112_0, hx112_1, hx112_2, hx112_3, hx112_4, hx112_5, hx112_6, hx112_7, hx112_8, hx112_9, hx112_10, hx112_11, hx112_12, hx112_13, hx112_14, hx112_15, hx112_16, hx112_17, hx112_18, hx112_19, hx112_20, hx112_21, hx112_22, hx112_23, hx112_24, hx112_25, hx112_26, hx112_27, hx112_28, hx112_29, hx112_30, hx112_31, hx112_32⟩ := at_T27 HR0.out x5_2 p112 q112
                              cases e112
                              (first | (obtain ⟨hr112, hrn112⟩ := row27_mk hx112_0 hx112_1 hx112_2 hx112_3 hx112_4 hx112_5 hx112_6 hx112_7 hx112_8 hx112_9 hx112_10 hx112_11 hx112_12 hx112_13 hx112_14 hx112_15 hx112_16 hx112_17 hx112_18 hx112_19 hx112_20 hx112_21 hx112_22 hx112_23 hx112_24 hx112_25 hx112_26 hx112_27 hx112_28 hx112_29 hx112_30 hx112_31 hx112_32; clear hx112_1 hx112_2 hx112_3 hx112_4 hx112_5 hx112_6 hx112_7 hx112_8 hx112_9 hx112_10 hx112_11 hx112_12 hx112_13 hx112_14 hx112_15 hx112_16 hx112_17 hx112_18 hx112_19 hx112_20 hx112_21 hx112_22 hx112_23 hx112_24 hx112_25 hx112_26 hx112_27 hx112_28 hx112_29 hx112_30 hx112_31 hx112_32) | skip)
                              replace p112 := eq_true p112
                              replace q112 := eq_true q112
                              have p113 : 0 ≤ (x5_2 : Int) := of_decide_eq_true (by first | (with_reducible assumption) | assumption)
                              have q113 : x5_2 < (l0.length : Int) := of_decide_eq_true (by first | (with_reducible assumption) | assumption)
                              obtain ⟨ad113, e113, hx113_0, hx113_1, hx113_2, hx113_3, hx113_4, hx113_5, hx113_6, hx113_7, hx113_8, hx113_9, hx113_10, hx113_11, hx113_12, hx113_13, hx113_14, hx113_15, hx113_16, hx113_17, hx113_18, hx113_19, hx113_20, hx113_21, hx113_22, hx113_23, hx113_24, hx113_25, hx113_26, hx113_27, hx113_28, hx113_29, hx113_30, hx113_31, hx113_32⟩ := at_T27 HR0.out x5_2 p113 q113
                              obtain rfl : ad112 = ad113 := (by injection e113)
                              (first | (obtain ⟨hr113, hrn113⟩ := row27_mk hx113_0 hx113_1 hx113_2 hx113_3 hx113_4 hx113_5 hx113_6 hx113_7 hx113_8 hx113_9 hx113_10 hx113_11 hx113_12 hx113_13 hx113_14 hx113_15 hx113_16 hx113_17 hx113_18 hx113_19 hx113_20 hx113_21 hx113_22 hx113_23 hx113_24 hx113_25 hx113_26 hx113_27 hx113_28 hx113_29 hx113_30 hx113_31 hx113_32; clear hx113_1 hx113_2 hx113_3 hx113_4 hx113_5 hx113_6 hx113_7 hx113_8 hx113_9 hx113_10 hx113_11 hx113_12 hx113_13 hx113_14 hx113_15 hx113_16 hx113_17 hx113_18 hx113_19 hx113_20 hx113_21 hx113_22 hx113_23 hx113_24 hx113_25 hx113_26 hx113_27 hx113_28 hx113_29 hx113_30 hx113_31 hx113_32) | skip)
                              replace p113 := eq_true p113
                              replace q113 := eq_true q113
                              have p114 : 0 ≤ (x5_2 : Int) := of_decide_eq_true (by first | (with_reducible assumption) | assumption)
                              have q114 : x5_2 < (l0.length : Int) := of_decide_eq_true (by first | (with_reducible assumption) | assumption)
                              obtain ⟨ad114, e114, hx114_0, hx114_1, hx114_2, hx114_3, hx114_4, hx114_5, hx114_6, hx114_7, hx114_8, hx114_9, hx114_10, hx114_11, hx114_12, hx114_13, hx114_14, hx114_15, hx114_16, hx114_17, hx114_18, hx114_19, hx114_20, hx114_21, hx114_22, hx114_23, hx114_24, hx114_25, hx114_26, hx114_27, hx114_28, hx114_29, hx114_30, hx114_31, hx114_32⟩ := at_T27 HR0.out x5_2 p114 q114
                              obtain rfl : ad112 = ad114 := (by injection e114)
                              (first | (obtain ⟨hr114, hrn114⟩ := row27_mk hx114_0 hx114_1 hx114_2 hx114_3 hx114_4 hx114_5 hx114_6 hx114_7 hx114_8 hx114_9 hx114_10 hx114_11 hx114_12 hx114_13 hx114_14 hx114_15 hx114_16 hx114_17 hx114_18 hx114_19 hx114_20 hx114_21 hx114_22 hx114_23 hx114_24 hx114_25 hx114_26 hx114_27 hx114_28 hx114_29 hx114_30 hx114_31 hx114_32; clear hx114_1 hx114_2 hx114_3 hx114_4 hx114_5 hx114_6 hx114_7 hx114_8 hx114_9 hx114_10 hx114_11 hx114_12 hx114_13 hx114_14 hx114_15 hx114_16 hx114_17 hx114_18 hx114_19 hx114_20 hx114_21 hx114_22 hx114_23 hx114_24 hx114_25 hx114_26 hx114_27 hx114_28 hx114_29 hx114_30 hx114_31 hx114_32) | skip)
                              replace p114 := eq_true p114
                              replace q114 := eq_true q114
                              have p115 : 0 ≤ ((ji13) : Int) := of_decide_eq_true (by first | (with_reducible assumption) | assumption)
                              have q115 : (ji13) < (l0.length : Int) := of_decide_eq_true (by first | (with_reducible assumption) | assumption)
                              obtain ⟨ad115, e115, hx115_0, hx115_1, hx115_2, hx115_3, hx115_4, hx115_5, hx115_6, hx115_7, hx115_8, hx115_9, hx115_10, hx115_11, hx115_12, hx115_13, hx115_14, hx115_15, hx115_16, hx115_17, hx115_18, hx115_19, hx115_20, hx115_21, hx115_22, hx115_23, hx115_24, hx115_25, hx115_26, hx115_27, hx115_28, hx115_29, hx115_30, hx115_31, hx115_32⟩ := at_T27 HR0.out (ji13) p115 q115
                              obtain rfl : ad112 = ad115 := (by injection e115)
                              (first | (obtain ⟨hr115, hrn115⟩ := row27_mk hx115_0 hx115_1 hx115_2 hx115_3 hx115_4 hx115_5 hx115_6 hx115_7 hx115_8 hx115_9 hx115_10 hx115_11 hx115_12 hx115_13 hx115_14 hx115_15 hx115_16 hx115_17 hx115_18 hx115_19 hx115_20 hx115_21 hx115_22 hx115_23 hx115_24 hx115_25 hx115_26 hx115_27 hx115_28 hx115_29 hx115_30 hx115_31 hx115_32; clear hx115_1 hx115_2 hx115_3 hx115_4 hx115_5 hx115_6 hx115_7 hx115_8 hx115_9 hx115_10 hx115_11 hx115_12 hx115_13 hx115_14 hx115_15 hx115_16 hx115_17 hx115_18 hx115_19 hx115_20 hx115_21 hx115_22 hx115_23 hx115_24 hx115_25 hx115_26 hx115_27 hx115_28 hx115_29 hx115_30 hx115_31 hx115_32) | skip)
                              replace p115 := eq_true p115
                              replace q115 := eq_true q115
                              have p116 : 0 ≤ (x5_2 : Int) := of_decide_eq_true (by first | (with_reducible assumption) | assumption)
                              have q116 : x5_2 < (l0.length : Int) := of_decide_eq_true (by first | (with_reducible assumption) | assumption)
                              obtain ⟨ad116, e116, hx116_0, hx116_1, hx116_2, hx116_3, hx116_4, hx116_5, hx116_6, hx116_7, hx116_8, hx116_9, hx116_10, hx116_11, hx116_12, hx116_13, hx116_14, hx116_15, hx116_16, hx116_17, hx116_18, hx116_19, hx116_20, hx116_21, hx116_22, hx116_23, hx116_24, hx116_25, hx116_26, hx116_27, hx116_28, hx116_29, hx116_30, hx116_31, hx116_32⟩ := at_T27 HR0.out x5_2 p116 q116
                              obtain rfl : ad112 = ad116 := (by injection e116)
                              (first | (obtain ⟨hr116, hrn116⟩ := row27_mk hx116_0 hx116_1 hx116_2 hx116_3 hx116_4 hx116_5 hx116_6 hx116_7 hx116_8 hx116_9 hx116_10 hx116_11 hx116_12 hx116_13 hx116_14 hx116_15 hx116_16 hx116_17 hx116_18 hx116_19 hx116_20 hx116_21 hx116_22 hx116_23 hx116_24 hx116_25 hx116_26 hx116_27 hx116_28 hx116_29 hx116_30 hx116_31 hx116_32; clear hx116_1 hx116_2 hx116_3 hx116_4 hx116_5 hx116_6 hx116_7 hx116_8 hx116_9 hx116_10 hx116_11 hx116_12 hx116_13 hx116_14 hx116_15 hx116_16 hx116_17 hx116_18 hx116_19 hx116_20 hx116_21 hx116_22 hx116_23 hx116_24 hx116_25 hx116_26 hx116_27 hx116_28 hx116_29 hx116_30 hx116_31 hx116_32) | skip)
                              replace p116 := eq_true p116
                              replace q116 := eq_true q116
                              go_wp2
                              repeat (go_quiet (fail); try go_wp2)
                              go_meet
                              case rel => exact ⟨_, (decide (((rd_T27 l0 (ji13)).f0) ≥ ((rd_T27 l0 x5_2).f0))), (by first | rfl | (simp; done) | (simp only [← hji13] <;> (first | rfl | simp)) | (simp [*]; done)), H', ⟨by have := HJ2.out; have := HK2.out; first | omega | exact Nat.le_refl _⟩, by repeat (first | exact Drawn0.refl _ | apply Drawn0.step)⟩
                            · rw [if_neg c15] at H
                              exact absurd H (by simp)
                          · rw [if_neg c14] at H
                            exact absurd H (by simp)
                        · rw [if_neg c12] at H
                          have c12b0 : decide (0 < x5_2) = false := decide_eq_false c12
                          clear c12
                          have H' := Aside0.mk H
                          clear H
                          have p112 : 0 ≤ (x5_2 : Int) := of_decide_eq_true (by first | (with_reducible assumption) | assumption)
                          have q112 : x5_2 < (l0.length : Int) := of_decide_eq_true (by first | (with_reducible assumption) | assumption)
                          obtain ⟨ad112, e112, hx112_0, hx112_1, hx112_2, hx112_3, hx112_4, hx112_5, hx112_6, hx112_7, hx112_8, hx112_9, hx112_10, hx112_11, hx112_12, hx112_13, hx112_14, hx112_15, hx112_16, hx112_17, hx112_18, hx112_19, hx112_20, hx112_21, hx112_22, hx112_23, hx112_24, hx112_25, hx112_26, hx112_27, hx112_28, hx112_29, hx112_30, hx112_31, hx112_32⟩ := at_T27 HR0.out x5_2 p112 q112
                          cases e112
                          (first | (obtain ⟨hr112, hrn112⟩ := row27_mk hx112_0 hx112_1 hx112_2 hx112_3 hx112_4 hx112_5 hx112_6 hx112_7 hx112_8 hx112_9 hx112_10 hx112_11 hx112_12 hx112_13 hx112_14 hx112_15 hx112_16 hx112_17 hx112_18 hx112_19 hx112_20 hx112_21 hx112_22 hx112_23 hx112_24 hx112_25 hx112_26 hx112_27 hx112_28 hx112_29 hx112_30 hx112_31 hx112_32; clear hx112_1 hx112_2 hx112_3 hx112_4 hx112_5 hx112_6 hx112_7 hx112_8 hx112_9 hx112_10 hx112_11 hx112_12 hx112_13 hx112_14 hx112_15 hx112_16 hx112_17 hx112_18 hx112_19 hx112_20 hx112_21 hx112_22 hx112_23 hx112_24 hx112_25 hx112_26 hx112_27 hx112_28 hx112_29 hx112_30 hx112_31 hx112_32) | skip)
                          replace p112 := eq_true p112
                          replace q112 := eq_true q112
                          have p113 : 0 ≤ (x5_2 : Int) := of_decide_eq_true (by first | (with_reducible assumption) | assumption)
                          have q113 : x5_2 < (l0.length : Int) := of_decide_eq_true (by first | (with_reducible assumption) | assumption)
                          obtain ⟨ad113, e113, hx113_0, hx113_1, hx113_2, hx113_3, hx113_4, hx113_5, hx113_6, hx113_7, hx113_8, hx113_9, hx113_10, hx113_11, hx113_12, hx113_13, hx113_14, hx113_15, hx113_16, hx113_17, hx113_18, hx113_19, hx113_20, hx113_21, hx113_22, hx113_23, hx113_24, hx113_25, hx113_26, hx113_27, hx113_28, hx113_29, hx113_30, hx113_31, hx113_32⟩ := at_T27 HR0.out x5_2 p113 q113
                          obtain rfl : ad112 = ad113 := (by injection e113)
                          (first | (obtain ⟨hr113, hrn113⟩ := row27_mk hx113_0 hx113_1 hx113_2 hx113_3 hx113_4 hx113_5 hx113_6 hx113_7 hx113_8 hx113_9 hx113_10 hx113_11 hx113_12 hx113_13 hx113_14 hx113_15 hx113_16 hx113_17 hx113_18 hx113_19 hx113_20 hx113_21 hx113_22 hx113_23 hx113_24 hx113_25 hx113_26 hx113_27 hx113_28 hx113_29 hx113_30 hx113_31 hx113_32; clear hx113_1 hx113_2 hx113_3 hx113_4 hx113_5 hx113_6 hx113_7 hx113_8 hx113_9 hx113_10 hx113_11 hx113_12 hx113_13 hx113_14 hx113_15 hx113_16 hx113_17 hx113_18 hx113_19 hx113_20 hx113_21 hx113_22 hx113_23 hx113_24 hx113_25 hx113_26 hx113_27 hx113_28 hx113_29 hx113_30 hx113_31 hx113_32) | skip)
                          replace p113 := eq_true p113
                          replace q113 := eq_true q113
                          have p114 : 0 ≤ (x5_2 : Int) := of_decide_eq_true (by first | (with_reducible assumption) | assumption)
                          have q114 : x5_2 < (l0.length : Int) := of_decide_eq_true (by first | (with_reducible assumption) | assumption)
                          obtain ⟨ad114, e114, hx114_0, hx114_1, hx114_2, hx114_3, hx114_4, hx114_5, hx114_6, hx114_7, hx114_8, hx114_9, hx114_10, hx114_11, hx114_12, hx114_13, hx114_14, hx114_15, hx114_16, hx114_17, hx114_18, hx114_19, hx114_20, hx114_21, hx114_22, hx114_23, hx114_24, hx114_25, hx114_26, hx114_27, hx114_28, hx114_29, hx114_30, hx114_31, hx114_32⟩ := at_T27 HR0.out x5_2 p114 q114
                          obtain rfl : ad112 = ad114 := (by injection e114)
                          (first | (obtain ⟨hr114, hrn114⟩ := row27_mk hx114_0 hx114_1 hx114_2 hx114_3 hx114_4 hx114_5 hx114_6 hx114_7 hx114_8 hx114_9 hx114_10 hx114_11 hx114_12 hx114_13 hx114_14 hx114_15 hx114_16 hx114_17 hx114_18 hx114_19 hx114_20 hx114_21 hx114_22 hx114_23 hx114_24 hx114_25 hx114_26 hx114_27 hx114_28 hx114_29 hx114_30 hx114_31 hx114_32; clear hx114_1 hx114_2 hx114_3 hx114_4 hx114_5 hx114_6 hx114_7 hx114_8 hx114_9 hx114_10 hx114_11 hx114_12 hx114_13 hx114_14 hx114_15 hx114_16 hx114_17 hx114_18 hx114_19 hx114_20 hx114_21 hx114_22 hx114_23 hx114_24 hx114_25 hx114_26 hx114_27 hx114_28 hx114_29 hx114_30 hx114_31 hx114_32) | skip)
                          replace p114 := eq_true p114
                          replace q114 := eq_true q114
                          go_wp2
                          repeat (go_quiet (fail); try go_wp2)
                          go_meet
                          case rel => exact ⟨_, (false), (by first | rfl | (simp; done) | (simp [*]; done)), H', ⟨by have := HJ2.out; have := HK2.out; first | omega | exact Nat.le_refl _⟩, by repeat (first | exact Drawn0.refl _ | apply Drawn0.step)⟩
                      · rw [if_neg c11] at H
                        have c11b0 : ((Int.tmod ((rd_T27 l0 x5_2).f0) 8) == 0) = false := beq_eq_false_iff_ne.mpr c11
                        have c11b1 : ((Int.tmod ((rd_T27 l0 x5_2).f0) 8) != 0) = true := bne_iff_ne.mpr c11
                        have H' := Aside0.mk H
                        clear H
                        have p112 : 0 ≤ (x5_2 : Int) := of_decide_eq_true (by first | (with_reducible assumption) | assumption)
                        have q112 : x5_2 < (l0.length : Int) := of_decide_eq_true (by first | (with_reducible assumption) | assumption)
                        obtain ⟨ad112, e112, hx112_0, hx112_1, hx112_2, hx112_3, hx112_4, hx112_5, hx112_6, hx112_7, hx112_8, hx112_9, hx112_10, hx112_11, hx112_12, hx112_13, hx112_14, hx112_15, hx112_16, hx112_17, hx112_18, hx112_19, hx112_20, hx112_21, hx112_22, hx112_23, hx112_24, hx112_25, hx112_26, hx112_27, hx112_28, hx112_29, hx112_30, hx112_31, hx112_32⟩ := at_T27 HR0.out x5_2 p112 q112
                        cases e112
                        (first | (obtain ⟨hr112, hrn112⟩ := row27_mk hx112_0 hx112_1 hx112_2 hx112_3 hx112_4 hx112_5 hx112_6 hx112_7 hx112_8 hx112_9 hx112_10 hx112_11 hx112_12 hx112_13 hx112_14 hx112_15 hx112_16 hx112_17 hx112_18 hx112_19 hx112_20 hx112_21 hx112_22 hx112_23 hx112_24 hx112_25 hx112_26 hx112_27 hx112_28 hx112_29 hx112_30 hx112_31 hx112_32; clear hx112_1 hx112_2 hx112_3 hx112_4 hx112_5 hx112_6 hx112_7 hx112_8 hx112_9 hx112_10 hx112_11 hx112_12 hx112_13 hx112_14 hx112_15 hx112_16 hx112_17 hx112_18 hx112_19 hx112_20 hx112_21 hx112_22 hx112_23 hx112_24 hx112_25 hx112_26 hx112_27 hx112_28 hx112_29 hx112_30 hx112_31 hx112_32) | skip)
                        replace p112 := eq_true p112
                        replace q112 := eq_true q112
                        have p113 : 0 ≤ (x5_2 : Int) := of_decide_eq_true (by first | (with_reducible assumption) | assumption)
                        have q113 : x5_2 < (l0.length : Int) := of_decide_eq_true (by first | (with_reducible assumption) | assumption)
                        obtain ⟨ad113, e113, hx113_0, hx113_1, hx113_2, hx113_3, hx113_4, hx113_5, hx113_6, hx113_7, hx113_8, hx113_9, hx113_10, hx113_11, hx113_12, hx113_13, hx113_14, hx113_15, hx113_16, hx113_17, hx113_18, hx113_19, hx113_20, hx113_21, hx113_22, hx113_23, hx113_24, hx113_25, hx113_26, hx113_27, hx113_28, hx113_29, hx113_30, hx113_31, hx113_32⟩ := at_T27 HR0.out x5_2 p113 q113
                        obtain rfl : ad112 = ad113 := (by injection e113)
                        (first | (obtain ⟨hr113, hrn113⟩ := row27_mk hx113_0 hx113_1 hx113_2 hx113_3 hx113_4 hx113_5 hx113_6 hx113_7 hx113_8 hx113_9 hx113_10 hx113_11 hx113_12 hx113_13 hx113_14 hx113_15 hx113_16 hx113_17 hx113_18 hx113_19 hx113_20 hx113_21 hx113_22 hx113_23 hx113_24 hx113_25 hx113_26 hx113_27 hx113_28 hx113_29 hx113_30 hx113_31 hx113_32; clear hx113_1 hx113_2 hx113_3 hx113_4 hx113_5 hx113_6 hx113_7 hx113_8 hx113_9 hx113_10 hx113_11 hx113_12 hx113_13 hx113_14 hx113_15 hx113_16 hx113_17 hx113_18 hx113_19 hx113_20 hx113_21 hx113_22 hx113_23 hx113_24 hx113_25 hx113_26 hx113_27 hx113_28 hx113_29 hx113_30 hx113_31 hx113_32) | skip)
                        replace p113 := eq_true p113
                        replace q113 := eq_true q113
                        have p114 : 0 ≤ (x5_2 : Int) := of_decide_eq_true (by first | (with_reducible assumption) | assumption)
                        have q114 : x5_2 < (l0.length : Int) := of_decide_eq_true (by first | (with_reducible assumption) | assumption)
                        obtain ⟨ad114, e114, hx114_0, hx114_1, hx114_2, hx114_3, hx114_4, hx114_5, hx114_6, hx114_7, hx114_8, hx114_9, hx114_10, hx114_11, hx114_12, hx114_13, hx114_14, hx114_15, hx114_16, hx114_17, hx114_18, hx114_19, hx114_20, hx114_21, hx114_22, hx114_23, hx114_24, hx114_25, hx114_26, hx114_27, hx114_28, hx114_29, hx114_30, hx114_31, hx114_32⟩ := at_T27 HR0.out x5_2 p114 q114
                        obtain rfl : ad112 = ad114 := (by injection e114)
                        (first | (obtain ⟨hr114, hrn114⟩ := row27_mk hx114_0 hx114_1 hx114_2 hx114_3 hx114_4 hx114_5 hx114_6 hx114_7 hx114_8 hx114_9 hx114_10 hx114_11 hx114_12 hx114_13 hx114_14 hx114_15 hx114_16 hx114_17 hx114_18 hx114_19 hx114_20 hx114_21 hx114_22 hx114_23 hx114_24 hx114_25 hx114_26 hx114_27 hx114_28 hx114_29 hx114_30 hx114_31 hx114_32; clear hx114_1 hx114_2 hx114_3 hx114_4 hx114_5 hx114_6 hx114_7 hx114_8 hx114_9 hx114_10 hx114_11 hx114_12 hx114_13 hx114_14 hx114_15 hx114_16 hx114_17 hx114_18 hx114_19 hx114_20 hx114_21 hx114_22 hx114_23 hx114_24 hx114_25 hx114_26 hx114_27 hx114_28 hx114_29 hx114_30 hx114_31 hx114_32) | skip)
                        replace p114 := eq_true p114
                        replace q114 := eq_true q114
                        go_wp2
                        repeat (go_quiet (fail); try go_wp2)
                        go_meet
                        case rel => exact ⟨_, (true), (by first | rfl | (simp; done) | (simp [*]; done)), H', ⟨by have := HJ2.out; have := HK2.out; first | omega | exact Nat.le_refl _⟩, by repeat (first | exact Drawn0.refl _ | apply Drawn0.step)⟩
                · rw [if_neg c8] at H
                  exact absurd H (by simp)
              case rest =>
                clear HC7
                try clear c1
                try clear p1
                try clear q1
                try clear hx1
                try clear c2
                try clear p2
                try clear c4
                try clear c4b0
                try clear c5
                try clear c6
                try clear c6b0
                try clear p6
                try clear c8
                try clear c8b0
                try clear c9
                try clear c9b0
                try clear c10
                try clear c10b0
                try clear c11
                try clear c11b0
                try clear c11b1
                try clear p11
                try clear q11
                try clear hx11
                try clear c12
                try clear c12b0
                try clear c14
                try clear c14b0
                try clear c15
                try clear c15b0
                try clear hx112_0
                try clear hx112_1
                try clear hx112_10
                try clear hx112_11
                try clear hx112_12
                try clear hx112_13
                try clear hx112_14
                try clear hx112_15
                try clear hx112_16
                try clear hx112_17
                try clear hx112_18
                try clear hx112_19
                try clear hx112_2
                try clear hx112_20
                try clear hx112_21
                try clear hx112_22
                try clear hx112_23
                try clear hx112_24
                try clear hx112_25
                try clear hx112_26
                try clear hx112_27
                try clear hx112_28
                try clear hx112_29
                try clear hx112_3
                try clear hx112_30
                try clear hx112_31
                try clear hx112_32
                try clear hx112_4
                try clear hx112_5
                try clear hx112_6
                try clear hx112_7
                try clear hx112_8
                try clear hx112_9
                try clear hx113_0
                try clear hx113_1
                try clear hx113_10
                try clear hx113_11
                try clear hx113_12
                try clear hx113_13
                try clear hx113_14
                try clear hx113_15
                try clear hx113_16
                try clear hx113_17
                try clear hx113_18
                try clear hx113_19
                try clear hx113_2
                try clear hx113_20
                try clear hx113_21
                try clear hx113_22
                try clear hx113_23
                try clear hx113_24
                try clear hx113_25
                try clear hx113_26
                try clear hx113_27
                try clear hx113_28
                try clear hx113_29
                try clear hx113_3
                try clear hx113_30
                try clear hx113_31
                try clear hx113_32
                try clear hx113_4
                try clear hx113_5
                try clear hx113_6
                try clear hx113_7
                try clear hx113_8
                try clear hx113_9
                try clear hx114_0
                try clear hx114_1
                try clear hx114_10
                try clear hx114_11
                try clear hx114_12
                try clear hx114_13
                try clear hx114_14
                try clear hx114_15
                try clear hx114_16
                try clear hx114_17
                try clear hx114_18
                try clear hx114_19
                try clear hx114_2
                try clear hx114_20
                try clear hx114_21
                try clear hx114_22
                try clear hx114_23
                try clear hx114_24
                try clear hx114_25
                try clear hx114_26
                try clear hx114_27
                try clear hx114_28
                try clear hx114_29
                try clear hx114_3
                try clear hx114_30
                try clear hx114_31
                try clear hx114_32
                try clear hx114_4
                try clear hx114_5
                try clear hx114_6
                try clear hx114_7
                try clear hx114_8
                try clear hx114_9
                try clear hx115_0
                try clear hx115_1
                try clear hx115_10
                try clear hx115_11
                try clear hx115_12
                try clear hx115_13
                try clear hx115_14
                try clear hx115_15
                try clear hx115_16
                try clear hx115_17
                try clear hx115_18
                try clear hx115_19
                try clear hx115_2
                try clear hx115_20
                try clear hx115_21
                try clear hx115_22
                try clear hx115_23
                try clear hx115_24
                try clear hx115_25
                try clear hx115_26
                try clear hx115_27
                try clear hx115_28
                try clear hx115_29
                try clear hx115_3
                try clear hx115_30
                try clear hx115_31
                try clear hx115_32
                try clear hx115_4
                try clear hx115_5
                try clear hx115_6
                try clear hx115_7
                try clear hx115_8
                try clear hx115_9
                try clear hx116_0
                try clear hx116_1
                try clear hx116_10
                try clear hx116_11
                try clear hx116_12
                try clear hx116_13
                try clear hx116_14
                try clear hx116_15
                try clear hx116_16
                try clear hx116_17
                try clear hx116_18
                try clear hx116_19
                try clear hx116_2
                try clear hx116_20
                try clear hx116_21
                try clear hx116_22
                try clear hx116_23
                try clear hx116_24
                try clear hx116_25
                try clear hx116_26
                try clear hx116_27
                try clear hx116_28
                try clear hx116_29
                try clear hx116_3
                try clear hx116_30
                try clear hx116_31
                try clear hx116_32
                try clear hx116_4
                try clear hx116_5
                try clear hx116_6
                try clear hx116_7
                try clear hx116_8
                try clear hx116_9
                try clear p112
                try clear p113
                try clear p114
                try clear p115
                try clear p116
                try clear p2
                try clear q112
                try clear q113
                try clear q114
                try clear q115
                try clear q116
                obtain ⟨kq, x59_6, rfl, HA, HJ6, ⟨mc6, rfl⟩⟩ := hcut
                cases kq with
                | zero => exact absurd HA.out (by simp [retconref23_May.j2])
                | succ kj6 =>
                  have H := HA.out
                  clear HA
                  simp only [retconref23_May.j2] at H
                  by_cases c16 : x59_6 = true
                  · subst c16
                    have H1 : (some 2) = some r := by rw [if_pos rfl] at H; exact H
                    clear H
                    have H := H1
                    clear H1
                    obtain rfl := Option.some.inj H
                    go_wp2
                    repeat (go_quiet (fail); try go_wp2)
                    go_ret
                    exact ⟨by first | rfl | (simp; done) | (simp [*]; done), by repeat (first | exact Drawn0.refl _ | apply Drawn0.step)⟩
                  · replace c16 := Bool.eq_false_iff.mpr c16
                    subst c16
                    have H1 : (retconref23_May.l0 kj6 l0 a1 (wrap64 (x5_2 + 1))) = some r := by rw [if_neg (show ¬ (false = true) by decide)] at H; exact H
                    clear H
                    have H := H1
                    clear H1
                    have H' := Aside0.mk H
                    clear H
                    go_wp2
                    repeat (go_quiet (fail); try go_wp2)
                    go_roundg kj6
                    case measure => have := HJ2.out; have := HK2.out; have := HJ6.out; omega
                    case rel => exact ⟨(wrap64 (x5_2 + 1)), (by first | rfl | (simp; done) | (simp [*]; done)), H', ⟨by have := HJ2.out; have := HK2.out; have := HJ6.out; omega⟩, by repeat (first | exact Drawn0.refl _ | apply Drawn0.step)⟩
            · rw [if_neg c6] at H
              have c6b0 : decide (x5_2 < (l0.length : Int)) = false := decide_eq_false c6
              clear c6
              obtain rfl := Option.some.inj H
              go_wp2
              repeat (go_quiet (fail); try go_wp2)
              go_ret
              exact ⟨by first | rfl | (simp; done) | (simp [*]; done), by repeat (first | exact Drawn0.refl _ | apply Drawn0.step)⟩

/-! ### retconref23_Kept: function 13 -/
def retconref23_Kept.l0 : Nat → List (S27) → Int → List (S27) → Int → Option ((List (S27)))
  | 0, _, _, _, _ => none
  | k + 1, x0, x1, x5, x6 => if x6 < (x0.length : Int) then (if 0 ≤ x6 then (if ((rd_T27 x0 x6).f0) ≤ x1 then (if x5.length < 3518437208883 then (retconref23_Kept.l0 k x0 x1 (x5 ++ [(⟨(rd_T27 x0 x6).f0, (⟨(rd_T27 x0 x6).f1.f0, (rd_T27 x0 x6).f1.f1, (rd_T27 x0 x6).f1.f2, (rd_T27 x0 x6).f1.f3, (rd_T27 x0 x6).f1.f4, (rd_T27 x0 x6).f1.f5, (rd_T27 x0 x6).f1.f6, (rd_T27 x0 x6).f1.f7, (rd_T27 x0 x6).f1.f8, (rd_T27 x0 x6).f1.f9, (rd_T27 x0 x6).f1.f10, (rd_T27 x0 x6).f1.f11, (rd_T27 x0 x6).f1.f12, (rd_T27 x0 x6).f1.f13, (rd_T27 x0 x6).f1.f14, (rd_T27 x0 x6).f1.f15, (rd_T27 x0 x6).f1.f16, (rd_T27 x0 x6).f1.f17, (rd_T27 x0 x6).f1.f18, (rd_T27 x0 x6).f1.f19, (rd_T27 x0 x6).f1.f20, (rd_T27 x0 x6).f1.f21, (rd_T27 x0 x6).f1.f22, (rd_T27 x0 x6).f1.f23, (rd_T27 x0 x6).f1.f24, (rd_T27 x0 x6).f1.f25, (rd_T27 x0 x6).f1.f26, (rd_T27 x0 x6).f1.f27, (rd_T27 x0 x6).f1.f28, (rd_T27 x0 x6).f1.f29, (rd_T27 x0 x6).f1.f30, (rd_T27 x0 x6).f1.f31⟩ : S25)⟩ : S27)]) (wrap64 (x6 + 1))) else (none)) else (retconref23_Kept.l0 k x0 x1 x5 (wrap64 (x6 + 1)))) else (none)) else (some x5)
def retconref23_Kept.f (k : Nat) (l0 : List (S27)) (a1 : Int) : Option ((List (S27))) := (retconref23_May.f k l0 500).bind fun t117 => (if t117 = 0 then (retconref23_Kept.l0 k l0 a1 ([] : List (S27)) 0) else (some ([] : List (S27))))
theorem retconref23_Kept.mono_l : ∀ k, (∀ y0 y1 y2 y3, LeO (retconref23_Kept.l0 k y0 y1 y2 y3) (retconref23_Kept.l0 (k + 1) y0 y1 y2 y3))
  | 0 => fun _ _ _ _ r h => by simp [retconref23_Kept.l0] at h
  | k + 1 => by
    have ih0 := retconref23_Kept.mono_l k
    · intro y0 y1 y2 y3
      unfold retconref23_Kept.l0
      repeat' first
      | (with_reducible exact ih0 _ _ _ _)
      | (with_reducible exact retconref23_May.mono _ _ _)
      | (with_reducible exact LeO.refl _)
      | (with_reducible exact LeO.none _)
      | (with_reducible refine LeO.ite ?_ ?_)
      | (with_reducible refine LeO.bind ?_ (fun _ => ?_))
      | exact ih0 _ _ _ _
      | exact retconref23_May.mono _ _ _
      | exact LeO.none _
      | refine LeO.ite ?_ ?_
      | refine LeO.bind ?_ (fun _ => ?_)
theorem retconref23_Kept.mono : ∀ a0 a1 k, LeO (retconref23_Kept.f k a0 a1) (retconref23_Kept.f (k + 1) a0 a1) := by
  intro a0 a1 k
  have ih0 := retconref23_Kept.mono_l k
  unfold retconref23_Kept.f
  repeat' first
      | (with_reducible exact ih0 _ _ _ _)
      | (with_reducible exact retconref23_May.mono _ _ _)
      | (with_reducible exact LeO.refl _)
      | (with_reducible exact LeO.none _)
      | (with_reducible refine LeO.ite ?_ ?_)
      | (with_reducible refine LeO.bind ?_ (fun _ => ?_))
      | exact ih0 _ _ _ _
      | exact retconref23_May.mono _ _ _
      | exact LeO.none _
      | refine LeO.ite ?_ ?_
      | refine LeO.bind ?_ (fun _ => ?_)
set_option maxHeartbeats 8000000 in
set_option maxRecDepth 100000 in
theorem retconref23_Kept.calls (k : Nat) (A0 : Option Addr) (c0 : Nat) (l0 : List (S27)) (a1 : Int) (r : List (S27)) (w : World) (hr0 : Kd.C k27 w A0 l0.length l0) (hc0 : l0.length ≤ c0) (h : retconref23_Kept.f k l0 a1 = some r) :
    Calls Try.prog 13 #[.slice A0 l0.length c0, .int .i64 a1] w fun e w' => ∃ v0_ : Value, e = .returned (v0_) ∧ Kd.R k27 27 w' w.heap.size (fun _ => True) v0_ r ∧ Below w.heap.size w w' := by
  have hu27 := Try.underlying27
  have HR0 := Aside0.mk hr0
  have HC0 := Aside0.mk hc0
  clear hr0 hc0
  have HB := Aside0.mk (Below.refl w.heap.size w)
  have H : ((retconref23_May.f k l0 500).bind fun t117 => (if t117 = 0 then (retconref23_Kept.l0 k l0 a1 ([] : List (S27)) 0) else (some ([] : List (S27))))) = some r := h
  clear h
  replace H := Option.bind_eq_some_iff.mp H
  obtain ⟨t117, A30, H⟩ := H
  replace H : (if t117 = 0 then (retconref23_Kept.l0 k l0 a1 ([] : List (S27)) 0) else (some ([] : List (S27)))) = some r := H
  have A3 := Aside0.mk A30
  clear A30
  by_cases c4 : t117 = 0
  · rw [if_pos c4] at H
    have c4b0 : (t117 == 0) = true := beq_iff_eq.mpr c4
    have c4b1 : (t117 != 0) = false := bne_eq_false_iff_eq.mpr c4
    clear c4
    have H' := Aside0.mk H
    clear H
    go_enter Try.func13, Try.ntmps13
    go_wp2_with (first | ((with_reducible refine gate_callee (f := 21) rfl ?_); refine goesL_ (some 8) rfl rfl Try.func21 (by kernel_rfl) rfl #[.slice A0 l0.length c0, .int .i64 500] rfl (by (try simp only [List.map_toArray, List.map_cons, List.map_nil]); first | done | rfl | (simp only [List.length_drop, List.length_take]; rfl)) ?_; (with_reducible refine (retconref23_May.calls k _ _ l0 500 t117 _ ?side1 ?side2 A3.out).mono ?_); (case side1 => repeat (first | exact HR0.out | (with_reducible refine Kd.C_alloc ?_ _) | (with_reducible refine Kd.C_drewN ?_ _) | (with_reducible refine Kd.C_drew ?_))); (case side2 => exact HC0.out); rintro e w' ⟨rfl, ⟨nd, rfl⟩⟩; refine ⟨_, rfl, ?_⟩))
    go_loopg [5, 6] k (fun kq v5 v6 w' => ∃ (x5_1 : List (S27)) (x6_1 : Int), v6 = .int .i64 x6_1 ∧ Aside0 (retconref23_Kept.l0 kq l0 a1 x5_1 x6_1 = some r) ∧ Aside0 (kq ≤ k) ∧ Aside0 (Kd.R k27 27 w' w.heap.size (fun _ => True) v5 x5_1) ∧ Aside0 (Below w.heap.size w w'))
    case atStart => exact ⟨(([] : List (S27))), (0), (by first | rfl | (simp; done) | (simp [*]; done)), H', ⟨Nat.le_refl _⟩, ⟨by first | exact Kd.R_nil _ _ _ _ _ | exact Kd.N_nil _ _ _ _ _ | exact Kd.V_nil _ _ _ _ _ | exact Kd.Q_nil _ _ _ _ _ | exact Kd.S_nil _ _ _ _ _⟩, ⟨by repeat (first | (with_reducible first | exact HB.out | apply below_alloc | apply pw_below_drewN | apply below_drew1) | exact HB.out)⟩⟩
    case round =>
      clear H'
      try clear c1
      try clear c2
      try clear p2
      try clear c4
      try clear c4b0
      try clear c4b1
      obtain ⟨x5_1, x6_1, rfl, HA, HK1, HO_5, HB⟩ := hrel
      cases gk with
      | zero => exact absurd HA.out (by simp [retconref23_Kept.l0])
      | succ k1 =>
        have H := HA.out
        clear HA
        simp only [retconref23_Kept.l0] at H
        by_cases c5 : x6_1 < (l0.length : Int)
        · rw [if_pos c5] at H
          have c5b0 : decide (x6_1 < (l0.length : Int)) = true := decide_eq_true c5
          clear c5
          by_cases c6 : 0 ≤ x6_1
          · rw [if_pos c6] at H
            have c6b0 : decide (0 ≤ x6_1) = true := decide_eq_true c6
            clear c6
            by_cases c7 : ((rd_T27 l0 x6_1).f0) ≤ a1
            · rw [if_pos c7] at H
              have c7b0 : decide (((rd_T27 l0 x6_1).f0) ≤ a1) = true := decide_eq_true c7
              clear c7
              by_cases c8 : x5_1.length < 3518437208883
              · rw [if_pos c8] at H
                have LMc8 := Aside0.mk c8
                clear c8
                obtain ⟨y120, hy120⟩ : ∃ y_ : List (S27), y_ = (x5_1 ++ [(⟨(rd_T27 l0 x6_1).f0, (⟨(rd_T27 l0 x6_1).f1.f0, (rd_T27 l0 x6_1).f1.f1, (rd_T27 l0 x6_1).f1.f2, (rd_T27 l0 x6_1).f1.f3, (rd_T27 l0 x6_1).f1.f4, (rd_T27 l0 x6_1).f1.f5, (rd_T27 l0 x6_1).f1.f6, (rd_T27 l0 x6_1).f1.f7, (rd_T27 l0 x6_1).f1.f8, (rd_T27 l0 x6_1).f1.f9, (rd_T27 l0 x6_1).f1.f10, (rd_T27 l0 x6_1).f1.f11, (rd_T27 l0 x6_1).f1.f12, (rd_T27 l0 x6_1).f1.f13, (rd_T27 l0 x6_1).f1.f14, (rd_T27 l0 x6_1).f1.f15, (rd_T27 l0 x6_1).f1.f16, (rd_T27 l0 x6_1).f1.f17, (rd_T27 l0 x6_1).f1.f18, (rd_T27 l0 x6_1).f1.f19, (rd_T27 l0 x6_1).f1.f20, (rd_T27 l0 x6_1).f1.f21, (rd_T27 l0 x6_1).f1.f22, (rd_T27 l0 x6_1).f1.f23, (rd_T27 l0 x6_1).f1.f24, (rd_T27 l0 x6_1).f1.f25, (rd_T27 l0 x6_1).f1.f26, (rd_T27 l0 x6_1).f1.f27, (rd_T27 l0 x6_1).f1.f28, (rd_T27 l0 x6_1).f1.f29, (rd_T27 l0 x6_1).f1.f30, (rd_T27 l0 x6_1).f1.f31⟩ : S25)⟩ : S27)]) := ⟨_, rfl⟩
                replace H : (retconref23_Kept.l0 k1 l0 a1 y120 (wrap64 (x6_1 + 1))) = some r := by first | (rw [hy120]; with_reducible exact H) | (have H2_ := (Option.bind_some _ _).symm.trans H; rw [hy120]; with_reducible exact H2_) | (have H2_ := (Option.bind_some _ _).symm.trans H; with_reducible exact H2_) | with_reducible exact H | (rw [hy120]; exact H) | exact H
                have Ny120 := Aside0.mk hy120
                clear hy120
                have H' := Aside0.mk H
                clear H
                have p118 : 0 ≤ (x6_1 : Int) := of_decide_eq_true (by first | (with_reducible assumption) | assumption)
                have q118 : x6_1 < (l0.length : Int) := of_decide_eq_true (by first | (with_reducible assumption) | assumption)
                obtain ⟨ad118, e118, hx118_0, hx118_1, hx118_2, hx118_3, hx118_4, hx118_5, hx118_6, hx118_7, hx118_8, hx118_9, hx118_10, hx118_11, hx118_12, hx118_13, hx118_14, hx118_15, hx118_16, hx118_17, hx118_18, hx118_19, hx118_20, hx118_21, hx118_22, hx118_23, hx118_24, hx118_25, hx118_26, hx118_27, hx118_28, hx118_29, hx118_30, hx118_31, hx118_32⟩ := at_T27 HR0.out x6_1 p118 q118
                cases e118
                replace hx118_0 := (HB.out.cell (World.block_lt_of_cell? w _ hx118_0)).trans hx118_0
                replace hx118_1 := (HB.out.cell (World.block_lt_of_cell? w _ hx118_1)).trans hx118_1
                replace hx118_2 := (HB.out.cell (World.block_lt_of_cell? w _ hx118_2)).trans hx118_2
                replace hx118_3 := (HB.out.cell (World.block_lt_of_cell? w _ hx118_3)).trans hx118_3
                replace hx118_4 := (HB.out.cell (World.block_lt_of_cell? w _ hx118_4)).trans hx118_4
                replace hx118_5 := (HB.out.cell (World.block_lt_of_cell? w _ hx118_5)).trans hx118_5
                replace hx118_6 := (HB.out.cell (World.block_lt_of_cell? w _ hx118_6)).trans hx118_6
                replace hx118_7 := (HB.out.cell (World.block_lt_of_cell? w _ hx118_7)).trans hx118_7
                replace hx118_8 := (HB.out.cell (World.block_lt_of_cell? w _ hx118_8)).trans hx118_8
                replace hx118_9 := (HB.out.cell (World.block_lt_of_cell? w _ hx118_9)).trans hx118_9
                replace hx118_10 := (HB.out.cell (World.block_lt_of_cell? w _ hx118_10)).trans hx118_10
                replace hx118_11 := (HB.out.cell (World.block_lt_of_cell? w _ hx118_11)).trans hx118_11
                replace hx118_12 := (HB.out.cell (World.block_lt_of_cell? w _ hx118_12)).trans hx118_12
                replace hx118_13 := (HB.out.cell (World.block_lt_of_cell? w _ hx118_13)).trans hx118_13
                replace hx118_14 := (HB.out.cell (World.block_lt_of_cell? w _ hx118_14)).trans hx118_14
                replace hx118_15 := (HB.out.cell (World.block_lt_of_cell? w _ hx118_15)).trans hx118_15
                replace hx118_16 := (HB.out.cell (World.block_lt_of_cell? w _ hx118_16)).trans hx118_16
                replace hx118_17 := (HB.out.cell (World.block_lt_of_cell? w _ hx118_17)).trans hx118_17
                replace hx118_18 := (HB.out.cell (World.block_lt_of_cell? w _ hx118_18)).trans hx118_18
                replace hx118_19 := (HB.out.cell (World.block_lt_of_cell? w _ hx118_19)).trans hx118_19
                replace hx118_20 := (HB.out.cell (World.block_lt_of_cell? w _ hx118_20)).trans hx118_20
                replace hx118_21 := (HB.out.cell (World.block_lt_of_cell? w _ hx118_21)).trans hx118_21
                replace hx118_22 := (HB.out.cell (World.block_lt_of_cell? w _ hx118_22)).trans hx118_22
                replace hx118_23 := (HB.out.cell (World.block_lt_of_cell? w _ hx118_23)).trans hx118_23
                replace hx118_24 := (HB.out.cell (World.block_lt_of_cell? w _ hx118_24)).trans hx118_24
                replace hx118_25 := (HB.out.cell (World.block_lt_of_cell? w _ hx118_25)).trans hx118_25
                replace hx118_26 := (HB.out.cell (World.block_lt_of_cell? w _ hx118_26)).trans hx118_26
                replace hx118_27 := (HB.out.cell (World.block_lt_of_cell? w _ hx118_27)).trans hx118_27
                replace hx118_28 := (HB.out.cell (World.block_lt_of_cell? w _ hx118_28)).trans hx118_28
                replace hx118_29 := (HB.out.cell (World.block_lt_of_cell? w _ hx118_29)).trans hx118_29
                replace hx118_30 := (HB.out.cell (World.block_lt_of_cell? w _ hx118_30)).trans hx118_30
                replace hx118_31 := (HB.out.cell (World.block_lt_of_cell? w _ hx118_31)).trans hx118_31
                replace hx118_32 := (HB.out.cell (World.block_lt_of_cell? w _ hx118_32)).trans hx118_32
                (first | (obtain ⟨hr118, hrn118⟩ := row27_mk hx118_0 hx118_1 hx118_2 hx118_3 hx118_4 hx118_5 hx118_6 hx118_7 hx118_8 hx118_9 hx118_10 hx118_11 hx118_12 hx118_13 hx118_14 hx118_15 hx118_16 hx118_17 hx118_18 hx118_19 hx118_20 hx118_21 hx118_22 hx118_23 hx118_24 hx118_25 hx118_26 hx118_27 hx118_28 hx118_29 hx118_30 hx118_31 hx118_32; clear hx118_1 hx118_2 hx118_3 hx118_4 hx118_5 hx118_6 hx118_7 hx118_8 hx118_9 hx118_10 hx118_11 hx118_12 hx118_13 hx118_14 hx118_15 hx118_16 hx118_17 hx118_18 hx118_19 hx118_20 hx118_21 hx118_22 hx118_23 hx118_24 hx118_25 hx118_26 hx118_27 hx118_28 hx118_29 hx118_30 hx118_31 hx118_32) | skip)
                replace p118 := eq_true p118
                replace q118 := eq_true q118
                have p119 : 0 ≤ (x6_1 : Int) := of_decide_eq_true (by first | (with_reducible assumption) | assumption)
                have q119 : x6_1 < (l0.length : Int) := of_decide_eq_true (by first | (with_reducible assumption) | assumption)
                obtain ⟨ad119, e119, hx119_0, hx119_1, hx119_2, hx119_3, hx119_4, hx119_5, hx119_6, hx119_7, hx119_8, hx119_9, hx119_10, hx119_11, hx119_12, hx119_13, hx119_14, hx119_15, hx119_16, hx119_17, hx119_18, hx119_19, hx119_20, hx119_21, hx119_22, hx119_23, hx119_24, hx119_25, hx119_26, hx119_27, hx119_28, hx119_29, hx119_30, hx119_31, hx119_32⟩ := at_T27 HR0.out x6_1 p119 q119
                obtain rfl : ad118 = ad119 := (by injection e119)
                replace hx119_0 := (HB.out.cell (World.block_lt_of_cell? w _ hx119_0)).trans hx119_0
                replace hx119_1 := (HB.out.cell (World.block_lt_of_cell? w _ hx119_1)).trans hx119_1
                replace hx119_2 := (HB.out.cell (World.block_lt_of_cell? w _ hx119_2)).trans hx119_2
                replace hx119_3 := (HB.out.cell (World.block_lt_of_cell? w _ hx119_3)).trans hx119_3
                replace hx119_4 := (HB.out.cell (World.block_lt_of_cell? w _ hx119_4)).trans hx119_4
                replace hx119_5 := (HB.out.cell (World.block_lt_of_cell? w _ hx119_5)).trans hx119_5
                replace hx119_6 := (HB.out.cell (World.block_lt_of_cell? w _ hx119_6)).trans hx119_6
                replace hx119_7 := (HB.out.cell (World.block_lt_of_cell? w _ hx119_7)).trans hx119_7
                replace hx119_8 := (HB.out.cell (World.block_lt_of_cell? w _ hx119_8)).trans hx119_8
                replace hx119_9 := (HB.out.cell (World.block_lt_of_cell? w _ hx119_9)).trans hx119_9
                replace hx119_10 := (HB.out.cell (World.block_lt_of_cell? w _ hx119_10)).trans hx119_10
                replace hx119_11 := (HB.out.cell (World.block_lt_of_cell? w _ hx119_11)).trans hx119_11
                replace hx119_12 := (HB.out.cell (World.block_lt_of_cell? w _ hx119_12)).trans hx119_12
                replace hx119_13 := (HB.out.cell (World.block_lt_of_cell? w _ hx119_13)).trans hx119_13
                replace hx119_14 := (HB.out.cell (World.block_lt_of_cell? w _ hx119_14)).trans hx119_14
                replace hx119_15 := (HB.out.cell (World.block_lt_of_cell? w _ hx119_15)).trans hx119_15
                replace hx119_16 := (HB.out.cell (World.block_lt_of_cell? w _ hx119_16)).trans hx119_16
                replace hx119_17 := (HB.out.cell (World.block_lt_of_cell? w _ hx119_17)).trans hx119_17
                replace hx119_18 := (HB.out.cell (World.block_lt_of_cell? w _ hx119_18)).trans hx119_18
                replace hx119_19 := (HB.out.cell (World.block_lt_of_cell? w _ hx119_19)).trans hx119_19
                replace hx119_20 := (HB.out.cell (World.block_lt_of_cell? w _ hx119_20)).trans hx119_20
                replace hx119_21 := (HB.out.cell (World.block_lt_of_cell? w _ hx119_21)).trans hx119_21
                replace hx119_22 := (HB.out.cell (World.block_lt_of_cell? w _ hx119_22)).trans hx119_22
                replace hx119_23 := (HB.out.cell (World.block_lt_of_cell? w _ hx119_23)).trans hx119_23
                replace hx119_24 := (HB.out.cell (World.block_lt_of_cell? w _ hx119_24)).trans hx119_24
                replace hx119_25 := (HB.out.cell (World.block_lt_of_cell? w _ hx119_25)).trans hx119_25
                replace hx119_26 := (HB.out.cell (World.block_lt_of_cell? w _ hx119_26)).trans hx119_26
                replace hx119_27 := (HB.out.cell (World.block_lt_of_cell? w _ hx119_27)).trans hx119_27
                replace hx119_28 := (HB.out.cell (World.block_lt_of_cell? w _ hx119_28)).trans hx119_28
                replace hx119_29 := (HB.out.cell (World.block_lt_of_cell? w _ hx119_29)).trans hx119_29
                replace hx119_30 := (HB.out.cell (World.block_lt_of_cell? w _ hx119_30)).trans hx119_30
                replace hx119_31 := (HB.out.cell (World.block_lt_of_cell? w _ hx119_31)).trans hx119_31
                replace hx119_32 := (HB.out.cell (World.block_lt_of_cell? w _ hx119_32)).trans hx119_32
                (first | (obtain ⟨hr119, hrn119⟩ := row27_mk hx119_0 hx119_1 hx119_2 hx119_3 hx119_4 hx119_5 hx119_6 hx119_7 hx119_8 hx119_9 hx119_10 hx119_11 hx119_12 hx119_13 hx119_14 hx119_15 hx119_16 hx119_17 hx119_18 hx119_19 hx119_20 hx119_21 hx119_22 hx119_23 hx119_24 hx119_25 hx119_26 hx119_27 hx119_28 hx119_29 hx119_30 hx119_31 hx119_32; clear hx119_1 hx119_2 hx119_3 hx119_4 hx119_5 hx119_6 hx119_7 hx119_8 hx119_9 hx119_10 hx119_11 hx119_12 hx119_13 hx119_14 hx119_15 hx119_16 hx119_17 hx119_18 hx119_19 hx119_20 hx119_21 hx119_22 hx119_23 hx119_24 hx119_25 hx119_26 hx119_27 hx119_28 hx119_29 hx119_30 hx119_31 hx119_32) | skip)
                replace p119 := eq_true p119
                replace q119 := eq_true q119
                go_wp2_with (first | ((with_reducible refine gate_builtin (b := .append) (xs := #[.tmp 23, .tmp 28]) rfl ?_); at_builtin; refine Kd.R_append k27 (w0 := w) w.heap.size rfl (.tmp 23) (.tmp 28) 22 27 (.agg ((.int .i64 0) :: (.int .u8 0) :: (.int .u8 0) :: (.int .u8 0) :: (.int .u8 0) :: (.int .u8 0) :: (.int .u8 0) :: (.int .u8 0) :: (.int .u8 0) :: (.int .u8 0) :: (.int .u8 0) :: (.int .u8 0) :: (.int .u8 0) :: (.int .u8 0) :: (.int .u8 0) :: (.int .u8 0) :: (.int .u8 0) :: (.int .u8 0) :: (.int .u8 0) :: (.int .u8 0) :: (.int .u8 0) :: (.int .u8 0) :: (.int .u8 0) :: (.int .u8 0) :: (.int .u8 0) :: (.int .u8 0) :: (.int .u8 0) :: (.int .u8 0) :: (.int .u8 0) :: (.int .u8 0) :: (.int .u8 0) :: (.int .u8 0) :: (.int .u8 0) :: []).toArray) 40 rfl Try.underlying22 info27 rfl (by decide) (by omega) u5 x5_1 (⟨(rd_T27 l0 x6_1).f0, (⟨(rd_T27 l0 x6_1).f1.f0, (rd_T27 l0 x6_1).f1.f1, (rd_T27 l0 x6_1).f1.f2, (rd_T27 l0 x6_1).f1.f3, (rd_T27 l0 x6_1).f1.f4, (rd_T27 l0 x6_1).f1.f5, (rd_T27 l0 x6_1).f1.f6, (rd_T27 l0 x6_1).f1.f7, (rd_T27 l0 x6_1).f1.f8, (rd_T27 l0 x6_1).f1.f9, (rd_T27 l0 x6_1).f1.f10, (rd_T27 l0 x6_1).f1.f11, (rd_T27 l0 x6_1).f1.f12, (rd_T27 l0 x6_1).f1.f13, (rd_T27 l0 x6_1).f1.f14, (rd_T27 l0 x6_1).f1.f15, (rd_T27 l0 x6_1).f1.f16, (rd_T27 l0 x6_1).f1.f17, (rd_T27 l0 x6_1).f1.f18, (rd_T27 l0 x6_1).f1.f19, (rd_T27 l0 x6_1).f1.f20, (rd_T27 l0 x6_1).f1.f21, (rd_T27 l0 x6_1).f1.f22, (rd_T27 l0 x6_1).f1.f23, (rd_T27 l0 x6_1).f1.f24, (rd_T27 l0 x6_1).f1.f25, (rd_T27 l0 x6_1).f1.f26, (rd_T27 l0 x6_1).f1.f27, (rd_T27 l0 x6_1).f1.f28, (rd_T27 l0 x6_1).f1.f29, (rd_T27 l0 x6_1).f1.f30, (rd_T27 l0 x6_1).f1.f31⟩ : S25)⟩ : S27) (.int .i64 ((rd_T27 l0 x6_1).f0) :: .int .u8 ((rd_T27 l0 x6_1).f1.f0) :: .int .u8 ((rd_T27 l0 x6_1).f1.f1) :: .int .u8 ((rd_T27 l0 x6_1).f1.f2) :: .int .u8 ((rd_T27 l0 x6_1).f1.f3) :: .int .u8 ((rd_T27 l0 x6_1).f1.f4) :: .int .u8 ((rd_T27 l0 x6_1).f1.f5) :: .int .u8 ((rd_T27 l0 x6_1).f1.f6) :: .int .u8 ((rd_T27 l0 x6_1).f1.f7) :: .int .u8 ((rd_T27 l0 x6_1).f1.f8) :: .int .u8 ((rd_T27 l0 x6_1).f1.f9) :: .int .u8 ((rd_T27 l0 x6_1).f1.f10) :: .int .u8 ((rd_T27 l0 x6_1).f1.f11) :: .int .u8 ((rd_T27 l0 x6_1).f1.f12) :: .int .u8 ((rd_T27 l0 x6_1).f1.f13) :: .int .u8 ((rd_T27 l0 x6_1).f1.f14) :: .int .u8 ((rd_T27 l0 x6_1).f1.f15) :: .int .u8 ((rd_T27 l0 x6_1).f1.f16) :: .int .u8 ((rd_T27 l0 x6_1).f1.f17) :: .int .u8 ((rd_T27 l0 x6_1).f1.f18) :: .int .u8 ((rd_T27 l0 x6_1).f1.f19) :: .int .u8 ((rd_T27 l0 x6_1).f1.f20) :: .int .u8 ((rd_T27 l0 x6_1).f1.f21) :: .int .u8 ((rd_T27 l0 x6_1).f1.f22) :: .int .u8 ((rd_T27 l0 x6_1).f1.f23) :: .int .u8 ((rd_T27 l0 x6_1).f1.f24) :: .int .u8 ((rd_T27 l0 x6_1).f1.f25) :: .int .u8 ((rd_T27 l0 x6_1).f1.f26) :: .int .u8 ((rd_T27 l0 x6_1).f1.f27) :: .int .u8 ((rd_T27 l0 x6_1).f1.f28) :: .int .u8 ((rd_T27 l0 x6_1).f1.f29) :: .int .u8 ((rd_T27 l0 x6_1).f1.f30) :: .int .u8 ((rd_T27 l0 x6_1).f1.f31) :: []) (fun _ => True) (fun _ => False) rfl rfl ?aP (fun _ hk => hk.elim) ?aF ?aO ?aB ?aS ?aL ?_; (case aP => exact k27_mkM _ _ _ (⟨(rd_T27 l0 x6_1).f0, (⟨(rd_T27 l0 x6_1).f1.f0, (rd_T27 l0 x6_1).f1.f1, (rd_T27 l0 x6_1).f1.f2, (rd_T27 l0 x6_1).f1.f3, (rd_T27 l0 x6_1).f1.f4, (rd_T27 l0 x6_1).f1.f5, (rd_T27 l0 x6_1).f1.f6, (rd_T27 l0 x6_1).f1.f7, (rd_T27 l0 x6_1).f1.f8, (rd_T27 l0 x6_1).f1.f9, (rd_T27 l0 x6_1).f1.f10, (rd_T27 l0 x6_1).f1.f11, (rd_T27 l0 x6_1).f1.f12, (rd_T27 l0 x6_1).f1.f13, (rd_T27 l0 x6_1).f1.f14, (rd_T27 l0 x6_1).f1.f15, (rd_T27 l0 x6_1).f1.f16, (rd_T27 l0 x6_1).f1.f17, (rd_T27 l0 x6_1).f1.f18, (rd_T27 l0 x6_1).f1.f19, (rd_T27 l0 x6_1).f1.f20, (rd_T27 l0 x6_1).f1.f21, (rd_T27 l0 x6_1).f1.f22, (rd_T27 l0 x6_1).f1.f23, (rd_T27 l0 x6_1).f1.f24, (rd_T27 l0 x6_1).f1.f25, (rd_T27 l0 x6_1).f1.f26, (rd_T27 l0 x6_1).f1.f27, (rd_T27 l0 x6_1).f1.f28, (rd_T27 l0 x6_1).f1.f29, (rd_T27 l0 x6_1).f1.f30, (rd_T27 l0 x6_1).f1.f31⟩ : S25)⟩ : S27)); (case aB => exact (by repeat (first | (with_reducible first | exact HB.out | apply below_alloc | apply pw_below_drewN | apply below_drew1) | exact HB.out))); (case aF => exact (fun _ _ => trivial)); (case aO => exact (by (with_reducible repeat (first | apply Kd.R_alloc | apply Kd.R_drewN | apply Kd.R_drew)); exact HO_5.out)); (case aS => exact (below_size (by repeat (first | (with_reducible first | exact HB.out | apply below_alloc | apply pw_below_drewN | apply below_drew1) | exact HB.out)))); (case aL => have := LMc8.out; omega); intro v121 w9 ho hb hg hat; rw [← Ny120.out] at ho; have n0_ := Aside0.mk (hb); have n1_ := Aside0.mk (ho); clear HB; clear HO_5; have HB := n0_; have HO122 := n1_; clear n0_ n1_; clear ho hb hg hat))
                go_roundg k1
                case measure => have := HK1.out; omega
                case rel => exact ⟨(y120), (wrap64 (x6_1 + 1)), (by first | rfl | (simp; done) | (simp [*]; done)), H', ⟨by have := HK1.out; omega⟩, ⟨by (with_reducible repeat (first | apply Kd.R_alloc | apply Kd.R_drewN | apply Kd.R_drew)); exact HO122.out⟩, ⟨by repeat (first | (with_reducible first | exact HB.out | apply below_alloc | apply pw_below_drewN | apply below_drew1) | exact HB.out)⟩⟩
              · rw [if_neg c8] at H
                exact absurd H (by simp)
            · rw [if_neg c7] at H
              have c7b0 : decide (((rd_T27 l0 x6_1).f0) ≤ a1) = false := decide_eq_false c7
              clear c7
              have H' := Aside0.mk H
              clear H
              have p118 : 0 ≤ (x6_1 : Int) := of_decide_eq_true (by first | (with_reducible assumption) | assumption)
              have q118 : x6_1 < (l0.length : Int) := of_decide_eq_true (by first | (with_reducible assumption) | assumption)
              obtain ⟨ad118, e118, hx118_0, hx118_1, hx118_2, hx118_3, hx118_4, hx118_5, hx118_6, hx118_7, hx118_8, hx118_9, hx118_10, hx118_11, hx118_12, hx118_13, hx118_14, hx118_15, hx118_16, hx118_17, hx118_18, hx118_19, hx118_20, hx118_21, hx118_22, hx118_23, hx118_24, hx118_25, hx118_26, hx118_27, hx118_28, hx118_29, hx118_30, hx118_31, hx118_32⟩ := at_T27 HR0.out x6_1 p118 q118
              cases e118
              replace hx118_0 := (HB.out.cell (World.block_lt_of_cell? w _ hx118_0)).trans hx118_0
              replace hx118_1 := (HB.out.cell (World.block_lt_of_cell? w _ hx118_1)).trans hx118_1
              replace hx118_2 := (HB.out.cell (World.block_lt_of_cell? w _ hx118_2)).trans hx118_2
              replace hx118_3 := (HB.out.cell (World.block_lt_of_cell? w _ hx118_3)).trans hx118_3
              replace hx118_4 := (HB.out.cell (World.block_lt_of_cell? w _ hx118_4)).trans hx118_4
              replace hx118_5 := (HB.out.cell (World.block_lt_of_cell? w _ hx118_5)).trans hx118_5
              replace hx118_6 := (HB.out.cell (World.block_lt_of_cell? w _ hx118_6)).trans hx118_6
              replace hx118_7 := (HB.out.cell (World.block_lt_of_cell? w _ hx118_7)).trans hx118_7
              replace hx118_8 := (HB.out.cell (World.block_lt_of_cell? w _ hx118_8)).trans hx118_8
              replace hx118_9 := (HB.out.cell (World.block_lt_of_cell? w _ hx118_9)).trans hx118_9
              replace hx118_10 := (HB.out.cell (World.block_lt_of_cell? w _ hx118_10)).trans hx118_10
              replace hx118_11 := (HB.out.cell (World.block_lt_of_cell? w _ hx118_11)).trans hx118_11
              replace hx118_12 := (HB.out.cell (World.block_lt_of_cell? w _ hx118_12)).trans hx118_12
              replace hx118_13 := (HB.out.cell (World.block_lt_of_cell? w _ hx118_13)).trans hx118_13
              replace hx118_14 := (HB.out.cell (World.block_lt_of_cell? w _ hx118_14)).trans hx118_14
              replace hx118_15 := (HB.out.cell (World.block_lt_of_cell? w _ hx118_15)).trans hx118_15
              replace hx118_16 := (HB.out.cell (World.block_lt_of_cell? w _ hx118_16)).trans hx118_16
              replace hx118_17 := (HB.out.cell (World.block_lt_of_cell? w _ hx118_17)).trans hx118_17
              replace hx118_18 := (HB.out.cell (World.block_lt_of_cell? w _ hx118_18)).trans hx118_18
              replace hx118_19 := (HB.out.cell (World.block_lt_of_cell? w _ hx118_19)).trans hx118_19
              replace hx118_20 := (HB.out.cell (World.block_lt_of_cell? w _ hx118_20)).trans hx118_20
              replace hx118_21 := (HB.out.cell (World.block_lt_of_cell? w _ hx118_21)).trans hx118_21
              replace hx118_22 := (HB.out.cell (World.block_lt_of_cell? w _ hx118_22)).trans hx118_22
              replace hx118_23 := (HB.out.cell (World.block_lt_of_cell? w _ hx118_23)).trans hx118_23
              replace hx118_24 := (HB.out.cell (World.block_lt_of_cell? w _ hx118_24)).trans hx118_24
              replace hx118_25 := (HB.out.cell (World.block_lt_of_cell? w _ hx118_25)).trans hx118_25
              replace hx118_26 := (HB.out.cell (World.block_lt_of_cell? w _ hx118_26)).trans hx118_26
              replace hx118_27 := (HB.out.cell (World.block_lt_of_cell? w _ hx118_27)).trans hx118_27
              replace hx118_28 := (HB.out.cell (World.block_lt_of_cell? w _ hx118_28)).trans hx118_28
              replace hx118_29 := (HB.out.cell (World.block_lt_of_cell? w _ hx118_29)).trans hx118_29
              replace hx118_30 := (HB.out.cell (World.block_lt_of_cell? w _ hx118_30)).trans hx118_30
              replace hx118_31 := (HB.out.cell (World.block_lt_of_cell? w _ hx118_31)).trans hx118_31
              replace hx118_32 := (HB.out.cell (World.block_lt_of_cell? w _ hx118_32)).trans hx118_32
              (first | (obtain ⟨hr118, hrn118⟩ := row27_mk hx118_0 hx118_1 hx118_2 hx118_3 hx118_4 hx118_5 hx118_6 hx118_7 hx118_8 hx118_9 hx118_10 hx118_11 hx118_12 hx118_13 hx118_14 hx118_15 hx118_16 hx118_17 hx118_18 hx118_19 hx118_20 hx118_21 hx118_22 hx118_23 hx118_24 hx118_25 hx118_26 hx118_27 hx118_28 hx118_29 hx118_30 hx118_31 hx118_32; clear hx118_1 hx118_2 hx118_3 hx118_4 hx118_5 hx118_6 hx118_7 hx118_8 hx118_9 hx118_10 hx118_11 hx118_12 hx118_13 hx118_14 hx118_15 hx118_16 hx118_17 hx118_18 hx118_19 hx118_20 hx118_21 hx118_22 hx118_23 hx118_24 hx118_25 hx118_26 hx118_27 hx118_28 hx118_29 hx118_30 hx118_31 hx118_32) | skip)
              replace p118 := eq_true p118
              replace q118 := eq_true q118
              go_wp2
              go_roundg k1
              case measure => have := HK1.out; omega
              case rel => exact ⟨(x5_1), (wrap64 (x6_1 + 1)), (by first | rfl | (simp; done) | (simp [*]; done)), H', ⟨by have := HK1.out; omega⟩, ⟨by (with_reducible repeat (first | apply Kd.R_alloc | apply Kd.R_drewN | apply Kd.R_drew)); exact HO_5.out⟩, ⟨by repeat (first | (with_reducible first | exact HB.out | apply below_alloc | apply pw_below_drewN | apply below_drew1) | exact HB.out)⟩⟩
          · rw [if_neg c6] at H
            exact absurd H (by simp)
        · rw [if_neg c5] at H
          have c5b0 : decide (x6_1 < (l0.length : Int)) = false := decide_eq_false c5
          clear c5
          obtain rfl := Option.some.inj H
          go_wp2
          go_ret
          exact ⟨_, by first | rfl | (simp [errW_none, errW_some] <;> rfl) | (simp [*, errW_none, errW_some] <;> rfl), by (with_reducible repeat (first | apply Kd.R_alloc | apply Kd.R_drewN | apply Kd.R_drew)); exact HO_5.out, by repeat (first | (with_reducible first | exact HB.out | apply below_alloc | apply pw_below_drewN | apply below_drew1) | exact HB.out)⟩
  · rw [if_neg c4] at H
    have c4b0 : (t117 == 0) = false := beq_eq_false_iff_ne.mpr c4
    have c4b1 : (t117 != 0) = true := bne_iff_ne.mpr c4
    obtain rfl := Option.some.inj H
    go_enter Try.func13, Try.ntmps13
    go_wp2_with (first | ((with_reducible refine gate_callee (f := 21) rfl ?_); refine goesL_ (some 8) rfl rfl Try.func21 (by kernel_rfl) rfl #[.slice A0 l0.length c0, .int .i64 500] rfl (by (try simp only [List.map_toArray, List.map_cons, List.map_nil]); first | done | rfl | (simp only [List.length_drop, List.length_take]; rfl)) ?_; (with_reducible refine (retconref23_May.calls k _ _ l0 500 t117 _ ?side1 ?side2 A3.out).mono ?_); (case side1 => repeat (first | exact HR0.out | (with_reducible refine Kd.C_alloc ?_ _) | (with_reducible refine Kd.C_drewN ?_ _) | (with_reducible refine Kd.C_drew ?_))); (case side2 => exact HC0.out); rintro e w' ⟨rfl, ⟨nd, rfl⟩⟩; refine ⟨_, rfl, ?_⟩))
    go_ret
    exact ⟨_, by first | rfl | (simp [errW_none, errW_some] <;> rfl) | (simp [*, errW_none, errW_some] <;> rfl), by first | exact Kd.R_nil _ _ _ _ _ | exact Kd.N_nil _ _ _ _ _ | exact Kd.V_nil _ _ _ _ _ | exact Kd.Q_nil _ _ _ _ _ | exact Kd.S_nil _ _ _ _ _, by repeat (first | (with_reducible first | exact HB.out | apply below_alloc | apply pw_below_drewN | apply below_drew1) | exact HB.out)⟩

/-! ### retconref23_Places: function 19 -/
mutual
def retconref23_Places.l0 : Nat → Int → List Int → Int → Option (List Int)
  | 0, _, _, _ => none
  | k + 1, x0, x3, x4 => if x4 ≤ x0 then (retconref23_Places.j1 k x0 x3 x4 (decide (x0 ≤ 500))) else (retconref23_Places.j1 k x0 x3 x4 false)
def retconref23_Places.j1 : Nat → Int → List Int → Int → Bool → Option (List Int)
  | 0, _, _, _, _ => none
  | k + 1, x0, x3, x4, x11 => if x11 = true then (if x3.length < 17592186044416 then (retconref23_Places.l0 k x0 (x3 ++ [x4]) (wrap64 (x4 + 8))) else (none)) else (some x3)
end
def retconref23_Places.f (k : Nat) (a0 : Int) : Option (List Int) := retconref23_Places.l0 k a0 ([] : List Int) 8
theorem retconref23_Places.mono_l : ∀ k, (∀ y0 y1 y2, LeO (retconref23_Places.l0 k y0 y1 y2) (retconref23_Places.l0 (k + 1) y0 y1 y2)) ∧ (∀ y0 y1 y2 y3, LeO (retconref23_Places.j1 k y0 y1 y2 y3) (retconref23_Places.j1 (k + 1) y0 y1 y2 y3))
  | 0 => ⟨fun _ _ _ r h => by simp [retconref23_Places.l0] at h, fun _ _ _ _ r h => by simp [retconref23_Places.j1] at h⟩
  | k + 1 => by
    obtain ⟨ih0, ih1⟩ := retconref23_Places.mono_l k
    refine ⟨?_, ?_⟩
    · intro y0 y1 y2
      unfold retconref23_Places.l0
      repeat' first
      | (with_reducible exact ih0 _ _ _)
      | (with_reducible exact ih1 _ _ _ _)
      | (with_reducible exact LeO.refl _)
      | (with_reducible exact LeO.none _)
      | (with_reducible refine LeO.ite ?_ ?_)
      | (with_reducible refine LeO.bind ?_ (fun _ => ?_))
      | exact ih0 _ _ _
      | exact ih1 _ _ _ _
      | exact LeO.none _
      | refine LeO.ite ?_ ?_
      | refine LeO.bind ?_ (fun _ => ?_)
    · intro y0 y1 y2 y3
      unfold retconref23_Places.j1
      repeat' first
      | (with_reducible exact ih0 _ _ _)
      | (with_reducible exact ih1 _ _ _ _)
      | (with_reducible exact LeO.refl _)
      | (with_reducible exact LeO.none _)
      | (with_reducible refine LeO.ite ?_ ?_)
      | (with_reducible refine LeO.bind ?_ (fun _ => ?_))
      | exact ih0 _ _ _
      | exact ih1 _ _ _ _
      | exact LeO.none _
      | refine LeO.ite ?_ ?_
      | refine LeO.bind ?_ (fun _ => ?_)
theorem retconref23_Places.mono : ∀ a0 k, LeO (retconref23_Places.f k a0) (retconref23_Places.f (k + 1) a0) := by
  intro a0 k
  obtain ⟨ih0, ih1⟩ := retconref23_Places.mono_l k
  unfold retconref23_Places.f
  repeat' first
      | (with_reducible exact ih0 _ _ _)
      | (with_reducible exact ih1 _ _ _ _)
      | (with_reducible exact LeO.refl _)
      | (with_reducible exact LeO.none _)
      | (with_reducible refine LeO.ite ?_ ?_)
      | (with_reducible refine LeO.bind ?_ (fun _ => ?_))
      | exact ih0 _ _ _
      | exact ih1 _ _ _ _
      | exact LeO.none _
      | refine LeO.ite ?_ ?_
      | refine LeO.bind ?_ (fun _ => ?_)
set_option maxHeartbeats 8000000 in
set_option maxRecDepth 100000 in
theorem retconref23_Places.calls (k : Nat) (a0 : Int) (r : List Int) (w : World) (h : retconref23_Places.f k a0 = some r) :
    Calls Try.prog 19 #[.int .i64 a0] w fun e w' => ∃ v0_ : Value, e = .returned (v0_) ∧ Kd.R (Kd.int .i64) 3 w' w.heap.size (fun _ => True) v0_ r ∧ Below w.heap.size w w' := by
  have HB := Aside0.mk (Below.refl w.heap.size w)
  have H : (retconref23_Places.l0 k a0 ([] : List Int) 8) = some r := h
  clear h
  have H' := Aside0.mk H
  clear H
  go_enter Try.func19, Try.ntmps19
  go_wp2
  go_loopg [3, 4] k (fun kq v3 v4 w' => ∃ (x3_1 : List Int) (x4_1 : Int), v4 = .int .i64 x4_1 ∧ Aside0 (retconref23_Places.l0 kq a0 x3_1 x4_1 = some r) ∧ Aside0 (kq ≤ k) ∧ Aside0 (Kd.R (Kd.int .i64) 3 w' w.heap.size (fun _ => True) v3 x3_1) ∧ Aside0 (Below w.heap.size w w'))
  case atStart => exact ⟨(([] : List Int)), (8), (by first | rfl | (simp; done) | (simp [*]; done)), H', ⟨Nat.le_refl _⟩, ⟨by first | exact Kd.R_nil _ _ _ _ _ | exact Kd.N_nil _ _ _ _ _ | exact Kd.V_nil _ _ _ _ _ | exact Kd.Q_nil _ _ _ _ _ | exact Kd.S_nil _ _ _ _ _⟩, ⟨by repeat (first | (with_reducible first | exact HB.out | apply below_alloc | apply pw_below_drewN | apply below_drew1) | exact HB.out)⟩⟩
  case round =>
    clear H'
    try clear c1
    obtain ⟨x3_1, x4_1, rfl, HA, HK1, HO_3, HB⟩ := hrel
    cases gk with
    | zero => exact absurd HA.out (by simp [retconref23_Places.l0])
    | succ k1 =>
      have H := HA.out
      clear HA
      simp only [retconref23_Places.l0] at H
      have HC2 := Aside0.mk H
      clear H
      go_upto_region 3 with (fail)
      go_cut [11] (fun v11 wc => ∃ (kq : Nat) (x11_1 : Bool), v11 = .bool x11_1 ∧ Aside0 (retconref23_Places.j1 kq a0 x3_1 x4_1 x11_1 = some r) ∧ Aside0 (kq ≤ k1) ∧ Aside0 (Kd.R (Kd.int .i64) 3 wc w.heap.size (fun _ => True) u3 x3_1) ∧ Aside0 (Below w.heap.size w wc))
      case first =>
        have H := HC2.out
        clear HC2
        by_cases c3 : x4_1 ≤ a0
        · rw [if_pos c3] at H
          have c3b0 : decide (x4_1 ≤ a0) = true := decide_eq_true c3
          clear c3
          (first | rw [c3b0] | (simp only [i64_w, i32_w]; rw [c3b0]) | skip)
          have H' := Aside0.mk H
          clear H
          go_wp2
          go_meet
          case rel => exact ⟨_, (decide (a0 ≤ 500)), (by first | rfl | (simp; done) | (simp [*]; done)), H', ⟨by have := HK1.out; first | omega | exact Nat.le_refl _⟩, ⟨by (with_reducible repeat (first | apply Kd.R_alloc | apply Kd.R_drewN | apply Kd.R_drew)); exact HO_3.out⟩, ⟨by repeat (first | (with_reducible first | exact HB.out | apply below_alloc | apply pw_below_drewN | apply below_drew1) | exact HB.out)⟩⟩
        · rw [if_neg c3] at H
          have c3b0 : decide (x4_1 ≤ a0) = false := decide_eq_false c3
          clear c3
          (first | rw [c3b0] | (simp only [i64_w, i32_w]; rw [c3b0]) | skip)
          have H' := Aside0.mk H
          clear H
          go_wp2
          go_meet
          case rel => exact ⟨_, (false), (by first | rfl | (simp; done) | (simp [*]; done)), H', ⟨by have := HK1.out; first | omega | exact Nat.le_refl _⟩, ⟨by (with_reducible repeat (first | apply Kd.R_alloc | apply Kd.R_drewN | apply Kd.R_drew)); exact HO_3.out⟩, ⟨by repeat (first | (with_reducible first | exact HB.out | apply below_alloc | apply pw_below_drewN | apply below_drew1) | exact HB.out)⟩⟩
      case rest =>
        clear HC2
        try clear c1
        try clear p2
        try clear c3
        try clear c3b0
        obtain ⟨kq, x11_1, rfl, HA, HJ1, HO_3, HB⟩ := hcut
        cases kq with
        | zero => exact absurd HA.out (by simp [retconref23_Places.j1])
        | succ kj1 =>
          have H := HA.out
          clear HA
          simp only [retconref23_Places.j1] at H
          by_cases c4 : x11_1 = true
          · subst c4
            have H1 : (if x3_1.length < 17592186044416 then (retconref23_Places.l0 kj1 a0 (x3_1 ++ [x4_1]) (wrap64 (x4_1 + 8))) else (none)) = some r := by rw [if_pos rfl] at H; exact H
            clear H
            have H := H1
            clear H1
            by_cases c5 : x3_1.length < 17592186044416
            · rw [if_pos c5] at H
              have LMc5 := Aside0.mk c5
              clear c5
              obtain ⟨y132, hy132⟩ : ∃ y_ : List Int, y_ = (x3_1 ++ [x4_1]) := ⟨_, rfl⟩
              replace H : (retconref23_Places.l0 kj1 a0 y132 (wrap64 (x4_1 + 8))) = some r := by first | (rw [hy132]; with_reducible exact H) | (have H2_ := (Option.bind_some _ _).symm.trans H; rw [hy132]; with_reducible exact H2_) | (have H2_ := (Option.bind_some _ _).symm.trans H; with_reducible exact H2_) | with_reducible exact H | (rw [hy132]; exact H) | exact H
              have Ny132 := Aside0.mk hy132
              clear hy132
              have H' := Aside0.mk H
              clear H
              go_wp2_with (first | ((with_reducible refine gate_builtin (b := .append) (xs := #[.tmp 14, .tmp 16]) rfl ?_); at_builtin; refine Kd.R_append (Kd.int .i64) (w0 := w) w.heap.size rfl (.tmp 14) (.tmp 16) 33 3 (.int .i64 0) 8 rfl Try.underlying33 info3 rfl (by decide) (by omega) u3 x3_1 x4_1 [.int .i64 x4_1] (fun _ => True) (fun _ => False) rfl rfl ?aP (fun _ hk => hk.elim) ?aF ?aO ?aB ?aS ?aL ?_; (case aP => exact rfl); (case aB => exact (by repeat (first | (with_reducible first | exact HB.out | apply below_alloc | apply pw_below_drewN | apply below_drew1) | exact HB.out))); (case aF => exact (fun _ _ => trivial)); (case aO => exact (by (with_reducible repeat (first | apply Kd.R_alloc | apply Kd.R_drewN | apply Kd.R_drew)); exact HO_3.out)); (case aS => exact (below_size (by repeat (first | (with_reducible first | exact HB.out | apply below_alloc | apply pw_below_drewN | apply below_drew1) | exact HB.out)))); (case aL => have := LMc5.out; omega); intro v133 w6 ho hb hg hat; rw [← Ny132.out] at ho; have n0_ := Aside0.mk (hb); have n1_ := Aside0.mk (ho); clear HB; clear HO_3; have HB := n0_; have HO134 := n1_; clear n0_ n1_; clear ho hb hg hat))
              go_roundg kj1
              case measure => have := HK1.out; have := HJ1.out; omega
              case rel => exact ⟨(y132), (wrap64 (x4_1 + 8)), (by first | rfl | (simp; done) | (simp [*]; done)), H', ⟨by have := HK1.out; have := HJ1.out; omega⟩, ⟨by (with_reducible repeat (first | apply Kd.R_alloc | apply Kd.R_drewN | apply Kd.R_drew)); exact HO134.out⟩, ⟨by repeat (first | (with_reducible first | exact HB.out | apply below_alloc | apply pw_below_drewN | apply below_drew1) | exact HB.out)⟩⟩
            · rw [if_neg c5] at H
              exact absurd H (by simp)
          · replace c4 := Bool.eq_false_iff.mpr c4
            subst c4
            have H1 : (some x3_1) = some r := by rw [if_neg (show ¬ (false = true) by decide)] at H; exact H
            clear H
            have H := H1
            clear H1
            obtain rfl := Option.some.inj H
            go_wp2
            go_ret
            exact ⟨_, by first | rfl | (simp [errW_none, errW_some] <;> rfl) | (simp [*, errW_none, errW_some] <;> rfl), by (with_reducible repeat (first | apply Kd.R_alloc | apply Kd.R_drewN | apply Kd.R_drew)); exact HO_3.out, by repeat (first | (with_reducible first | exact HB.out | apply below_alloc | apply pw_below_drewN | apply below_drew1) | exact HB.out)⟩

/-! ### retconref23_has: function 34 -/
def retconref23_has.l0 : Nat → List (S27) → Int → Int → Option (Bool)
  | 0, _, _, _ => none
  | k + 1, x0, x1, x5 => if x5 < (x0.length : Int) then (if 0 ≤ x5 then (if ((rd_T27 x0 x5).f0) = x1 then (some true) else (retconref23_has.l0 k x0 x1 (wrap64 (x5 + 1)))) else (none)) else (some false)
def retconref23_has.f (k : Nat) (l0 : List (S27)) (a1 : Int) : Option (Bool) := retconref23_has.l0 k l0 a1 0
theorem retconref23_has.mono_l : ∀ k, (∀ y0 y1 y2, LeO (retconref23_has.l0 k y0 y1 y2) (retconref23_has.l0 (k + 1) y0 y1 y2))
  | 0 => fun _ _ _ r h => by simp [retconref23_has.l0] at h
  | k + 1 => by
    have ih0 := retconref23_has.mono_l k
    · intro y0 y1 y2
      unfold retconref23_has.l0
      repeat' first
      | (with_reducible exact ih0 _ _ _)
      | (with_reducible exact LeO.refl _)
      | (with_reducible exact LeO.none _)
      | (with_reducible refine LeO.ite ?_ ?_)
      | (with_reducible refine LeO.bind ?_ (fun _ => ?_))
      | exact ih0 _ _ _
      | exact LeO.none _
      | refine LeO.ite ?_ ?_
      | refine LeO.bind ?_ (fun _ => ?_)
theorem retconref23_has.mono : ∀ a0 a1 k, LeO (retconref23_has.f k a0 a1) (retconref23_has.f (k + 1) a0 a1) := by
  intro a0 a1 k
  have ih0 := retconref23_has.mono_l k
  unfold retconref23_has.f
  repeat' first
      | (with_reducible exact ih0 _ _ _)
      | (with_reducible exact LeO.refl _)
      | (with_reducible exact LeO.none _)
      | (with_reducible refine LeO.ite ?_ ?_)
      | (with_reducible refine LeO.bind ?_ (fun _ => ?_))
      | exact ih0 _ _ _
      | exact LeO.none _
      | refine LeO.ite ?_ ?_
      | refine LeO.bind ?_ (fun _ => ?_)
set_option maxHeartbeats 8000000 in
set_option maxRecDepth 100000 in
theorem retconref23_has.calls (k : Nat) (A0 : Option Addr) (c0 : Nat) (l0 : List (S27)) (a1 : Int) (r : Bool) (w : World) (hr0 : Kd.C k27 w A0 l0.length l0) (hc0 : l0.length ≤ c0) (h : retconref23_has.f k l0 a1 = some r) :
    Calls Try.prog 34 #[.slice A0 l0.length c0, .int .i64 a1] w fun e w' => e = .returned (.bool r) ∧ Drawn0 w w' := by
  have HR0 := Aside0.mk hr0
  have HC0 := Aside0.mk hc0
  clear hr0 hc0
  have H : (retconref23_has.l0 k l0 a1 0) = some r := h
  clear h
  have H' := Aside0.mk H
  clear H
  go_enter Try.func34, Try.ntmps34
  go_wp2
  go_loopg [5] k (fun kq v5 w' => ∃ (x5_1 : Int), v5 = .int .i64 x5_1 ∧ Aside0 (retconref23_has.l0 kq l0 a1 x5_1 = some r) ∧ Aside0 (kq ≤ k) ∧ Drawn0 w w')
  case atStart => exact ⟨(0), (by first | rfl | (simp; done) | (simp [*]; done)), H', ⟨Nat.le_refl _⟩, by repeat (first | exact Drawn0.refl _ | apply Drawn0.step)⟩
  case round =>
    clear H'
    try clear p2
    obtain ⟨x5_1, rfl, HA, HK1, ⟨m1, rfl⟩⟩ := hrel
    cases gk with
    | zero => exact absurd HA.out (by simp [retconref23_has.l0])
    | succ k1 =>
      have H := HA.out
      clear HA
      simp only [retconref23_has.l0] at H
      by_cases c3 : x5_1 < (l0.length : Int)
      · rw [if_pos c3] at H
        have c3b0 : decide (x5_1 < (l0.length : Int)) = true := decide_eq_true c3
        clear c3
        by_cases c4 : 0 ≤ x5_1
        · rw [if_pos c4] at H
          have c4b0 : decide (0 ≤ x5_1) = true := decide_eq_true c4
          clear c4
          by_cases c5 : ((rd_T27 l0 x5_1).f0) = a1
          · rw [if_pos c5] at H
            have c5b0 : (((rd_T27 l0 x5_1).f0) == a1) = true := beq_iff_eq.mpr c5
            have c5b1 : (((rd_T27 l0 x5_1).f0) != a1) = false := bne_eq_false_iff_eq.mpr c5
            clear c5
            obtain rfl := Option.some.inj H
            have p135 : 0 ≤ (x5_1 : Int) := of_decide_eq_true (by first | (with_reducible assumption) | assumption)
            have q135 : x5_1 < (l0.length : Int) := of_decide_eq_true (by first | (with_reducible assumption) | assumption)
            obtain ⟨ad135, e135, hx135_0, hx135_1, hx135_2, hx135_3, hx135_4, hx135_5, hx135_6, hx135_7, hx135_8, hx135_9, hx135_10, hx135_11, hx135_12, hx135_13, hx135_14, hx135_15, hx135_16, hx135_17, hx135_18, hx135_19, hx135_20, hx135_21, hx135_22, hx135_23, hx135_24, hx135_25, hx135_26, hx135_27, hx135_28, hx135_29, hx135_30, hx135_31, hx135_32⟩ := at_T27 HR0.out x5_1 p135 q135
            cases e135
            (first | (obtain ⟨hr135, hrn135⟩ := row27_mk hx135_0 hx135_1 hx135_2 hx135_3 hx135_4 hx135_5 hx135_6 hx135_7 hx135_8 hx135_9 hx135_10 hx135_11 hx135_12 hx135_13 hx135_14 hx135_15 hx135_16 hx135_17 hx135_18 hx135_19 hx135_20 hx135_21 hx135_22 hx135_23 hx135_24 hx135_25 hx135_26 hx135_27 hx135_28 hx135_29 hx135_30 hx135_31 hx135_32; clear hx135_1 hx135_2 hx135_3 hx135_4 hx135_5 hx135_6 hx135_7 hx135_8 hx135_9 hx135_10 hx135_11 hx135_12 hx135_13 hx135_14 hx135_15 hx135_16 hx135_17 hx135_18 hx135_19 hx135_20 hx135_21 hx135_22 hx135_23 hx135_24 hx135_25 hx135_26 hx135_27 hx135_28 hx135_29 hx135_30 hx135_31 hx135_32) | skip)
            replace p135 := eq_true p135
            replace q135 := eq_true q135
            go_wp2
            go_ret
            exact ⟨by first | rfl | (simp; done) | (simp [*]; done), by repeat (first | exact Drawn0.refl _ | apply Drawn0.step)⟩
          · rw [if_neg c5] at H
            have c5b0 : (((rd_T27 l0 x5_1).f0) == a1) = false := beq_eq_false_iff_ne.mpr c5
            have c5b1 : (((rd_T27 l0 x5_1).f0) != a1) = true := bne_iff_ne.mpr c5
            have H' := Aside0.mk H
            clear H
            have p135 : 0 ≤ (x5_1 : Int) := of_decide_eq_true (by first | (with_reducible assumption) | assumption)
            have q135 : x5_1 < (l0.length : Int) := of_decide_eq_true (by first | (with_reducible assumption) | assumption)
            obtain ⟨ad135, e135, hx135_0, hx135_1, hx135_2, hx135_3, hx135_4, hx135_5, hx135_6, hx135_7, hx135_8, hx135_9, hx135_10, hx135_11, hx135_12, hx135_13, hx135_14, hx135_15, hx135_16, hx135_17, hx135_18, hx135_19, hx135_20, hx135_21, hx135_22, hx135_23, hx135_24, hx135_25, hx135_26, hx135_27, hx135_28, hx135_29, hx135_30, hx135_31, hx135_32⟩ := at_T27 HR0.out x5_1 p135 q135
            cases e135
            (first | (obtain ⟨hr135, hrn135⟩ := row27_mk hx135_0 hx135_1 hx135_2 hx135_3 hx135_4 hx135_5 hx135_6 hx135_7 hx135_8 hx135_9 hx135_10 hx135_11 hx135_12 hx135_13 hx135_14 hx135_15 hx135_16 hx135_17 hx135_18 hx135_19 hx135_20 hx135_21 hx135_22 hx135_23 hx135_24 hx135_25 hx135_26 hx135_27 hx135_28 hx135_29 hx135_30 hx135_31 hx135_32; clear hx135_1 hx135_2 hx135_3 hx135_4 hx135_5 hx135_6 hx135_7 hx135_8 hx135_9 hx135_10 hx135_11 hx135_12 hx135_13 hx135_14 hx135_15 hx135_16 hx135_17 hx135_18 hx135_19 hx135_20 hx135_21 hx135_22 hx135_23 hx135_24 hx135_25 hx135_26 hx135_27 hx135_28 hx135_29 hx135_30 hx135_31 hx135_32) | skip)
            replace p135 := eq_true p135
            replace q135 := eq_true q135
            go_wp2
            go_roundg k1
            case measure => have := HK1.out; omega
            case rel => exact ⟨(wrap64 (x5_1 + 1)), (by first | rfl | (simp; done) | (simp [*]; done)), H', ⟨by have := HK1.out; omega⟩, by repeat (first | exact Drawn0.refl _ | apply Drawn0.step)⟩
        · rw [if_neg c4] at H
          exact absurd H (by simp)
      · rw [if_neg c3] at H
        have c3b0 : decide (x5_1 < (l0.length : Int)) = false := decide_eq_false c3
        clear c3
        obtain rfl := Option.some.inj H
        go_wp2
        go_ret
        exact ⟨by first | rfl | (simp; done) | (simp [*]; done), by repeat (first | exact Drawn0.refl _ | apply Drawn0.step)⟩

/-! ### retconref23_Missing: function 16 -/
def retconref23_Missing.l0 : Nat → List (S27) → List Int → List Int → Int → Option (List Int)
  | 0, _, _, _, _ => none
  | k + 1, x0, x5, x6, x7 => if x7 < (x5.length : Int) then (if 0 ≤ x7 then ((retconref23_has.f k x0 (rd x5 x7)).bind fun t141 => (if t141 = true then (retconref23_Missing.l0 k x0 x5 x6 (wrap64 (x7 + 1))) else (if x6.length < 17592186044416 then (retconref23_Missing.l0 k x0 x5 (x6 ++ [rd x5 x7]) (wrap64 (x7 + 1))) else (none)))) else (none)) else (some x6)
def retconref23_Missing.f (k : Nat) (l0 : List (S27)) (a1 : Int) : Option (List Int) := (retconref23_May.f k l0 500).bind fun t136 => (if t136 = 0 then ((retconref23_Places.f k a1).bind fun t137 => (retconref23_Missing.l0 k l0 t137 ([] : List Int) 0)) else (some ([] : List Int)))
theorem retconref23_Missing.mono_l : ∀ k, (∀ y0 y1 y2 y3, LeO (retconref23_Missing.l0 k y0 y1 y2 y3) (retconref23_Missing.l0 (k + 1) y0 y1 y2 y3))
  | 0 => fun _ _ _ _ r h => by simp [retconref23_Missing.l0] at h
  | k + 1 => by
    have ih0 := retconref23_Missing.mono_l k
    · intro y0 y1 y2 y3
      unfold retconref23_Missing.l0
      repeat' first
      | (with_reducible exact ih0 _ _ _ _)
      | (with_reducible exact retconref23_May.mono _ _ _)
      | (with_reducible exact retconref23_Places.mono _ _)
      | (with_reducible exact retconref23_has.mono _ _ _)
      | (with_reducible exact LeO.refl _)
      | (with_reducible exact LeO.none _)
      | (with_reducible refine LeO.ite ?_ ?_)
      | (with_reducible refine LeO.bind ?_ (fun _ => ?_))
      | exact ih0 _ _ _ _
      | exact retconref23_May.mono _ _ _
      | exact retconref23_Places.mono _ _
      | exact retconref23_has.mono _ _ _
      | exact LeO.none _
      | refine LeO.ite ?_ ?_
      | refine LeO.bind ?_ (fun _ => ?_)
theorem retconref23_Missing.mono : ∀ a0 a1 k, LeO (retconref23_Missing.f k a0 a1) (retconref23_Missing.f (k + 1) a0 a1) := by
  intro a0 a1 k
  have ih0 := retconref23_Missing.mono_l k
  unfold retconref23_Missing.f
  repeat' first
      | (with_reducible exact ih0 _ _ _ _)
      | (with_reducible exact retconref23_May.mono _ _ _)
      | (with_reducible exact retconref23_Places.mono _ _)
      | (with_reducible exact retconref23_has.mono _ _ _)
      | (with_reducible exact LeO.refl _)
      | (with_reducible exact LeO.none _)
      | (with_reducible refine LeO.ite ?_ ?_)
      | (with_reducible refine LeO.bind ?_ (fun _ => ?_))
      | exact ih0 _ _ _ _
      | exact retconref23_May.mono _ _ _
      | exact retconref23_Places.mono _ _
      | exact retconref23_has.mono _ _ _
      | exact LeO.none _
      | refine LeO.ite ?_ ?_
      | refine LeO.bind ?_ (fun _ => ?_)
set_option maxHeartbeats 8000000 in
set_option maxRecDepth 100000 in
theorem retconref23_Missing.calls (k : Nat) (A0 : Option Addr) (c0 : Nat) (l0 : List (S27)) (a1 : Int) (r : List Int) (w : World) (hr0 : Kd.C k27 w A0 l0.length l0) (hc0 : l0.length ≤ c0) (h : retconref23_Missing.f k l0 a1 = some r) :
    Calls Try.prog 16 #[.slice A0 l0.length c0, .int .i64 a1] w fun e w' => ∃ v0_ : Value, e = .returned (v0_) ∧ Kd.R (Kd.int .i64) 3 w' w.heap.size (fun _ => True) v0_ r ∧ Below w.heap.size w w' := by
  have HR0 := Aside0.mk hr0
  have HC0 := Aside0.mk hc0
  clear hr0 hc0
  have HB := Aside0.mk (Below.refl w.heap.size w)
  have H : ((retconref23_May.f k l0 500).bind fun t136 => (if t136 = 0 then ((retconref23_Places.f k a1).bind fun t137 => (retconref23_Missing.l0 k l0 t137 ([] : List Int) 0)) else (some ([] : List Int)))) = some r := h
  clear h
  replace H := Option.bind_eq_some_iff.mp H
  obtain ⟨t136, A30, H⟩ := H
  replace H : (if t136 = 0 then ((retconref23_Places.f k a1).bind fun t137 => (retconref23_Missing.l0 k l0 t137 ([] : List Int) 0)) else (some ([] : List Int))) = some r := H
  have A3 := Aside0.mk A30
  clear A30
  by_cases c4 : t136 = 0
  · rw [if_pos c4] at H
    have c4b0 : (t136 == 0) = true := beq_iff_eq.mpr c4
    have c4b1 : (t136 != 0) = false := bne_eq_false_iff_eq.mpr c4
    clear c4
    replace H := Option.bind_eq_some_iff.mp H
    obtain ⟨t137, A50, H⟩ := H
    replace H : (retconref23_Missing.l0 k l0 t137 ([] : List Int) 0) = some r := H
    have A5 := Aside0.mk A50
    clear A50
    have H' := Aside0.mk H
    clear H
    go_enter Try.func16, Try.ntmps16
    go_wp2_with (first | ((with_reducible refine gate_callee (f := 21) rfl ?_); refine goesL_ (some 9) rfl rfl Try.func21 (by kernel_rfl) rfl #[.slice A0 l0.length c0, .int .i64 500] rfl (by (try simp only [List.map_toArray, List.map_cons, List.map_nil]); first | done | rfl | (simp only [List.length_drop, List.length_take]; rfl)) ?_; (with_reducible refine (retconref23_May.calls k _ _ l0 500 t136 _ ?side1 ?side2 A3.out).mono ?_); (case side1 => repeat (first | exact HR0.out | (with_reducible refine Kd.C_alloc ?_ _) | (with_reducible refine Kd.C_drewN ?_ _) | (with_reducible refine Kd.C_drew ?_))); (case side2 => exact HC0.out); rintro e w' ⟨rfl, ⟨nd, rfl⟩⟩; refine ⟨_, rfl, ?_⟩) | ((with_reducible refine gate_callee (f := 19) rfl ?_); refine goesL_ (some 12) rfl rfl Try.func19 (by kernel_rfl) rfl #[.int .i64 a1] rfl (by (try simp only [List.map_toArray, List.map_cons, List.map_nil]); first | done | rfl | (simp only [List.length_drop, List.length_take]; rfl)) ?_; (with_reducible refine (retconref23_Places.calls k a1 t137 _ A5.out).mono ?_); rintro e w6 ⟨v138, rfl, ho0, hb⟩; refine ⟨_, rfl, ?_⟩; have n0_ := Aside0.mk (Kd.R_lower ho0 (below_size (by repeat (first | (with_reducible first | exact HB.out | apply below_alloc | apply pw_below_drewN | apply below_drew1) | exact HB.out)))); have n1_ := Aside0.mk (below_step (by repeat (first | (with_reducible first | exact HB.out | apply below_alloc | apply pw_below_drewN | apply below_drew1) | exact HB.out)) hb); clear HB; have HO139 := n0_; have HB := n1_; clear n0_ n1_; (try clear hb); (try clear hb2); (try clear hk); (try clear hi); (try clear ho0)))
    go_loopg [6, 7] k (fun kq v6 v7 w' => ∃ (x6_1 : List Int) (x7_1 : Int), v7 = .int .i64 x7_1 ∧ Aside0 (retconref23_Missing.l0 kq l0 t137 x6_1 x7_1 = some r) ∧ Aside0 (kq ≤ k) ∧ Aside0 (Kd.R (Kd.int .i64) 3 w' w.heap.size (fun k_ => some k_ ≠ (v6 : Value).ownBlock) v138 t137) ∧ Aside0 (Kd.R (Kd.int .i64) 3 w' w.heap.size (fun k_ => some k_ ≠ (v138 : Value).ownBlock) v6 x6_1) ∧ Aside0 (Below w.heap.size w w'))
    case atStart => exact ⟨(([] : List Int)), (0), (by first | rfl | (simp; done) | (simp [*]; done)), H', ⟨Nat.le_refl _⟩, ⟨by (with_reducible repeat (first | apply Kd.R_alloc | apply Kd.R_drewN | apply Kd.R_drew)); exact Kd.R_mono HO139.out (fun _ hk => (by simp [Value.ownBlock]))⟩, ⟨by first | exact Kd.R_nil _ _ _ _ _ | exact Kd.N_nil _ _ _ _ _ | exact Kd.V_nil _ _ _ _ _ | exact Kd.Q_nil _ _ _ _ _ | exact Kd.S_nil _ _ _ _ _⟩, ⟨by repeat (first | (with_reducible first | exact HB.out | apply below_alloc | apply pw_below_drewN | apply below_drew1) | exact HB.out)⟩⟩
    case round =>
      clear H'
      try clear c1
      try clear c2
      try clear p2
      try clear c4
      try clear c4b0
      try clear c4b1
      obtain ⟨x6_1, x7_1, rfl, HA, HK1, HO_5, HO_6, HB⟩ := hrel
      cases gk with
      | zero => exact absurd HA.out (by simp [retconref23_Missing.l0])
      | succ k1 =>
        have H := HA.out
        clear HA
        simp only [retconref23_Missing.l0] at H
        by_cases c7 : x7_1 < (t137.length : Int)
        · rw [if_pos c7] at H
          have c7b0 : decide (x7_1 < (t137.length : Int)) = true := decide_eq_true c7
          clear c7
          by_cases c8 : 0 ≤ x7_1
          · rw [if_pos c8] at H
            have c8b0 : decide (0 ≤ x7_1) = true := decide_eq_true c8
            clear c8
            replace H := Option.bind_eq_some_iff.mp H
            obtain ⟨t141, A90, H⟩ := H
            replace H : (if t141 = true then (retconref23_Missing.l0 k1 l0 t137 x6_1 (wrap64 (x7_1 + 1))) else (if x6_1.length < 17592186044416 then (retconref23_Missing.l0 k1 l0 t137 (x6_1 ++ [rd t137 x7_1]) (wrap64 (x7_1 + 1))) else (none))) = some r := H
            have A9 := Aside0.mk A90
            clear A90
            by_cases c10 : t141 = true
            · subst c10
              have H1 : (retconref23_Missing.l0 k1 l0 t137 x6_1 (wrap64 (x7_1 + 1))) = some r := by rw [if_pos rfl] at H; exact H
              clear H
              have H := H1
              clear H1
              have H' := Aside0.mk H
              clear H
              obtain ⟨Ao11, co11, eo11⟩ := Kd.R_slice HO_5.out
              subst eo11
              have p140 : 0 ≤ (x7_1 : Int) := of_decide_eq_true (by first | (with_reducible assumption) | assumption)
              have q140 : x7_1 < (t137.length : Int) := of_decide_eq_true (by first | (with_reducible assumption) | assumption)
              obtain ⟨ad140, e140, hx140_0⟩ := Kd.at_int (Kd.R_reads' HO_5.out).2.2 x7_1 p140 q140
              cases e140
              replace p140 := eq_true p140
              replace q140 := eq_true q140
              go_wp2_with (first | ((with_reducible refine gate_callee (f := 34) rfl ?_); refine goesL_ (some 24) rfl rfl Try.func34 (by kernel_rfl) rfl #[.slice A0 l0.length c0, .int .i64 (rd t137 x7_1)] rfl (by (try simp only [List.map_toArray, List.map_cons, List.map_nil]); first | done | rfl | (simp only [List.length_drop, List.length_take]; rfl)) ?_; (with_reducible refine (retconref23_has.calls k1 _ _ l0 (rd t137 x7_1) true _ ?side1 ?side2 A9.out).mono ?_); (case side1 => repeat (first | exact (Kd.C_below HR0.out HB.out) | (with_reducible refine Kd.C_alloc ?_ _) | (with_reducible refine Kd.C_drewN ?_ _) | (with_reducible refine Kd.C_drew ?_))); (case side2 => exact HC0.out); rintro e w' ⟨rfl, ⟨nd, rfl⟩⟩; refine ⟨_, rfl, ?_⟩))
              go_roundg k1
              case measure => have := HK1.out; omega
              case rel => exact ⟨(x6_1), (wrap64 (x7_1 + 1)), (by first | rfl | (simp; done) | (simp [*]; done)), H', ⟨by have := HK1.out; omega⟩, ⟨by (with_reducible repeat (first | apply Kd.R_alloc | apply Kd.R_drewN | apply Kd.R_drew)); exact HO_5.out⟩, ⟨by (with_reducible repeat (first | apply Kd.R_alloc | apply Kd.R_drewN | apply Kd.R_drew)); exact HO_6.out⟩, ⟨by repeat (first | (with_reducible first | exact HB.out | apply below_alloc | apply pw_below_drewN | apply below_drew1) | exact HB.out)⟩⟩
            · replace c10 := Bool.eq_false_iff.mpr c10
              subst c10
              have H1 : (if x6_1.length < 17592186044416 then (retconref23_Missing.l0 k1 l0 t137 (x6_1 ++ [rd t137 x7_1]) (wrap64 (x7_1 + 1))) else (none)) = some r := by rw [if_neg (show ¬ (false = true) by decide)] at H; exact H
              clear H
              have H := H1
              clear H1
              by_cases c12 : x6_1.length < 17592186044416
              · rw [if_pos c12] at H
                have LMc12 := Aside0.mk c12
                clear c12
                obtain ⟨y143, hy143⟩ : ∃ y_ : List Int, y_ = (x6_1 ++ [rd t137 x7_1]) := ⟨_, rfl⟩
                replace H : (retconref23_Missing.l0 k1 l0 t137 y143 (wrap64 (x7_1 + 1))) = some r := by first | (rw [hy143]; with_reducible exact H) | (have H2_ := (Option.bind_some _ _).symm.trans H; rw [hy143]; with_reducible exact H2_) | (have H2_ := (Option.bind_some _ _).symm.trans H; with_reducible exact H2_) | with_reducible exact H | (rw [hy143]; exact H) | exact H
                have Ny143 := Aside0.mk hy143
                clear hy143
                have H' := Aside0.mk H
                clear H
                obtain ⟨Ao13, co13, eo13⟩ := Kd.R_slice HO_5.out
                subst eo13
                have p140 : 0 ≤ (x7_1 : Int) := of_decide_eq_true (by first | (with_reducible assumption) | assumption)
                have q140 : x7_1 < (t137.length : Int) := of_decide_eq_true (by first | (with_reducible assumption) | assumption)
                obtain ⟨ad140, e140, hx140_0⟩ := Kd.at_int (Kd.R_reads' HO_5.out).2.2 x7_1 p140 q140
                cases e140
                replace p140 := eq_true p140
                replace q140 := eq_true q140
                go_wp2_with (first | ((with_reducible refine gate_callee (f := 34) rfl ?_); refine goesL_ (some 24) rfl rfl Try.func34 (by kernel_rfl) rfl #[.slice A0 l0.length c0, .int .i64 (rd t137 x7_1)] rfl (by (try simp only [List.map_toArray, List.map_cons, List.map_nil]); first | done | rfl | (simp only [List.length_drop, List.length_take]; rfl)) ?_; (with_reducible refine (retconref23_has.calls k1 _ _ l0 (rd t137 x7_1) false _ ?side1 ?side2 A9.out).mono ?_); (case side1 => repeat (first | exact (Kd.C_below HR0.out HB.out) | (with_reducible refine Kd.C_alloc ?_ _) | (with_reducible refine Kd.C_drewN ?_ _) | (with_reducible refine Kd.C_drew ?_))); (case side2 => exact HC0.out); rintro e w' ⟨rfl, ⟨nd, rfl⟩⟩; refine ⟨_, rfl, ?_⟩; have p142 : 0 ≤ (x7_1 : Int) := of_decide_eq_true (by first | (with_reducible assumption) | assumption); have q142 : x7_1 < (t137.length : Int) := of_decide_eq_true (by first | (with_reducible assumption) | assumption); obtain ⟨ad142, e142, hx142_0⟩ := Kd.at_int (Kd.R_reads' HO_5.out).2.2 x7_1 p142 q142; obtain rfl : ad140 = ad142 := (by injection e142); replace p142 := eq_true p142; replace q142 := eq_true q142) | ((with_reducible refine gate_builtin (b := .append) (xs := #[.tmp 26, .tmp 31]) rfl ?_); at_builtin; refine Kd.R_append (Kd.int .i64) (w0 := w) w.heap.size rfl (.tmp 26) (.tmp 31) 33 3 (.int .i64 0) 8 rfl Try.underlying33 info3 rfl (by decide) (by omega) u6 x6_1 (rd t137 x7_1) [.int .i64 (rd t137 x7_1)] (fun k_ => some k_ ≠ (.slice (some ad140) t137.length co13 : Value).ownBlock) (fun _ => False) rfl rfl ?aP (fun _ hk => hk.elim) ?aF ?aO ?aB ?aS ?aL ?_; (case aP => exact rfl); (case aB => exact (by repeat (first | (with_reducible first | exact HB.out | apply below_alloc | apply pw_below_drewN | apply below_drew1) | exact HB.out))); (case aF => exact (fun k_ hk => Kd.fresh' (Kd.R_lt (by (with_reducible repeat (first | apply Kd.R_alloc | apply Kd.R_drewN | apply Kd.R_drew)); exact HO_5.out)) k_ hk)); (case aO => exact (by (with_reducible repeat (first | apply Kd.R_alloc | apply Kd.R_drewN | apply Kd.R_drew)); exact HO_6.out)); (case aS => exact (below_size (by repeat (first | (with_reducible first | exact HB.out | apply below_alloc | apply pw_below_drewN | apply below_drew1) | exact HB.out)))); (case aL => have := LMc12.out; omega); intro v144 w14 ho hb hg hat; rw [← Ny143.out] at ho; have n0_ := Aside0.mk (Kd.R_after (ok := (fun _ => True)) (by (with_reducible repeat (first | apply Kd.R_alloc | apply Kd.R_drewN | apply Kd.R_drew)); exact Kd.R_mono HO_5.out (fun _ hk => ⟨trivial, hk⟩)) hg hat); have n1_ := Aside0.mk (hb); have n2_ := Aside0.mk (ho); clear HO_5; clear HB; clear HO_6; have HO_5 := n0_; have HB := n1_; have HO145 := n2_; clear n0_ n1_ n2_; clear ho hb hg hat))
                go_roundg k1
                case measure => have := HK1.out; omega
                case rel => exact ⟨(y143), (wrap64 (x7_1 + 1)), (by first | rfl | (simp; done) | (simp [*]; done)), H', ⟨by have := HK1.out; omega⟩, ⟨by (with_reducible repeat (first | apply Kd.R_alloc | apply Kd.R_drewN | apply Kd.R_drew)); exact Kd.R_mono HO_5.out (fun _ hk => hk.2)⟩, ⟨by (with_reducible repeat (first | apply Kd.R_alloc | apply Kd.R_drewN | apply Kd.R_drew)); exact HO145.out⟩, ⟨by repeat (first | (with_reducible first | exact HB.out | apply below_alloc | apply pw_below_drewN | apply below_drew1) | exact HB.out)⟩⟩
              · rw [if_neg c12] at H
                exact absurd H (by simp)
          · rw [if_neg c8] at H
            exact absurd H (by simp)
        · rw [if_neg c7] at H
          have c7b0 : decide (x7_1 < (t137.length : Int)) = false := decide_eq_false c7
          clear c7
          obtain rfl := Option.some.inj H
          obtain ⟨Ao15, co15, eo15⟩ := Kd.R_slice HO_5.out
          subst eo15
          go_wp2
          go_ret
          exact ⟨_, by first | rfl | (simp [errW_none, errW_some] <;> rfl) | (simp [*, errW_none, errW_some] <;> rfl), by (with_reducible repeat (first | apply Kd.R_alloc | apply Kd.R_drewN | apply Kd.R_drew)); exact Kd.R_mono HO_6.out (fun _ hk => trivial), by repeat (first | (with_reducible first | exact HB.out | apply below_alloc | apply pw_below_drewN | apply below_drew1) | exact HB.out)⟩
  · rw [if_neg c4] at H
    have c4b0 : (t136 == 0) = false := beq_eq_false_iff_ne.mpr c4
    have c4b1 : (t136 != 0) = true := bne_iff_ne.mpr c4
    obtain rfl := Option.some.inj H
    go_enter Try.func16, Try.ntmps16
    go_wp2_with (first | ((with_reducible refine gate_callee (f := 21) rfl ?_); refine goesL_ (some 9) rfl rfl Try.func21 (by kernel_rfl) rfl #[.slice A0 l0.length c0, .int .i64 500] rfl (by (try simp only [List.map_toArray, List.map_cons, List.map_nil]); first | done | rfl | (simp only [List.length_drop, List.length_take]; rfl)) ?_; (with_reducible refine (retconref23_May.calls k _ _ l0 500 t136 _ ?side1 ?side2 A3.out).mono ?_); (case side1 => repeat (first | exact HR0.out | (with_reducible refine Kd.C_alloc ?_ _) | (with_reducible refine Kd.C_drewN ?_ _) | (with_reducible refine Kd.C_drew ?_))); (case side2 => exact HC0.out); rintro e w' ⟨rfl, ⟨nd, rfl⟩⟩; refine ⟨_, rfl, ?_⟩))
    go_ret
    exact ⟨_, by first | rfl | (simp [errW_none, errW_some] <;> rfl) | (simp [*, errW_none, errW_some] <;> rfl), by first | exact Kd.R_nil _ _ _ _ _ | exact Kd.N_nil _ _ _ _ _ | exact Kd.V_nil _ _ _ _ _ | exact Kd.Q_nil _ _ _ _ _ | exact Kd.S_nil _ _ _ _ _, by repeat (first | (with_reducible first | exact HB.out | apply below_alloc | apply pw_below_drewN | apply below_drew1) | exact HB.out)⟩

end Go.Proofs.Ytgippbgcmmjnbaa.XB
