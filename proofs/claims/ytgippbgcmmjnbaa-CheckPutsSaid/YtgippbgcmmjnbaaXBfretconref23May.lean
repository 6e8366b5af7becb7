-- Printed by xprint.py (a program of this work, over the kit's print.py). Lean checks it.
import Derived.Test.YtgippbgcmmjnbaaXB0
import Derived.Test.YtgippbgcmmjnbaaXBL
namespace Go.Proofs.Ytgippbgcmmjnbaa.XB
open Go.RowKit Go.Proofs.YtgippbgcmmjnbaaW.PrintWords Go.Proofs.YtgippbgcmmjnbaaW.PrintLast Go.Proofs.YtgippbgcmmjnbaaW.PrintMore
attribute [local go_sem] max2_int min2_int max_two min_two max_three min_three max_four min_four   -- for this text's walks alone
set_option linter.unusedVariables false
set_option linter.unusedSimpArgs false
attribute [local go_sem ↓ high] ld27
attribute [local go_sem high] LD27.new
/-! ### retconref23_May: function 21 -/
mutual
def retconref23_May.j0 : Nat → List (S27) → Int → Bool → Option (Int)
  | 0, _, _, _ => none
  | k + 1, x0, x1, x11 => if x11 = true then (some 5) else (retconref23_May.l0 k x0 x1 0)
def retconref23_May.l0 : Nat → List (S27) → Int → Int → Option (Int)
  | 0, _, _, _ => none
  | k + 1, x0, x1, x5 => if x5 < (x0.length : Int) then (if 0 ≤ x5 then (if ((rd_T27 x0 x5).f0) < 1 then (retconref23_May.j2 k x0 x1 x5 true) else (if ((rd_T27 x0 x5).f0) > x1 then (retconref23_May.j2 k x0 x1 x5 true) else (if (Int.tmod ((rd_T27 x0 x5).f0) 8) = 0 then (if x5 > 0 then (if 0 ≤ (wrap64 (x5 - 1)) then (if (wrap64 (x5 - 1)) < (x0.length : Int) then (retconref23_May.j2 k x0 x1 x5 (decide (((rd_T27 x0 (wrap64 (x5 - 1))).f0) ≥ ((rd_T27 x0 x5).f0)))) else (none)) else (none)) else (retconref23_May.j2 k x0 x1 x5 false)) else (retconref23_May.j2 k x0 x1 x5 true)))) else (none)) else (some 0)
def retconref23_May.j2 : Nat → List (S27) → Int → Int → Bool → Option (Int)
  | 0, _, _, _, _ => none
  | k + 1, x0, x1, x5, x59 => if x59 = true then (some 2) else (retconref23_May.l0 k x0 x1 (wrap64 (x5 + 1)))
end
def retconref23_May.f (k : Nat) (l0 : List (S27)) (a1 : Int) : Option (Int) := if a1 < 0 then (retconref23_May.j0 k l0 a1 true) else (retconref23_May.j0 k l0 a1 (decide (a1 > 500)))
theorem retconref23_May.mono_l : ∀ k, (∀ y0 y1 y2, LeO (retconref23_May.j0 k y0 y1 y2) (retconref23_May.j0 (k + 1) y0 y1 y2)) ∧ (∀ y0 y1 y2, LeO (retconref23_May.l0 k y0 y1 y2) (retconref23_May.l0 (k + 1) y0 y1 y2)) ∧ (∀ y0 y1 y2 y3, LeO (retconref23_May.j2 k y0 y1 y2 y3) (retconref23_May.j2 (k + 1) y0 y1 y2 y3))
  | 0 => ⟨fun _ _ _ r h => by simp [retconref23_May.j0] at h, fun _ _ _ r h => by simp [retconref23_May.l0] at h, fun _ _ _ _ r h => by simp [retconref23_May.j2] at h⟩
  | k + 1 => by
    obtain ⟨ih0, ih1, ih2⟩ := retconref23_May.mono_l k
    refine ⟨?_, ?_, ?_⟩
    · intro y0 y1 y2
      unfold retconref23_May.j0
      repeat' first
      | (with_reducible exact ih0 _ _ _)
      | (with_reducible exact ih1 _ _ _)
      | (with_reducible exact ih2 _ _ _ _)
      | (with_reducible exact LeO.refl _)
      | (with_reducible exact LeO.none _)
      | (with_reducible refine LeO.ite ?_ ?_)
      | (with_reducible refine LeO.bind ?_ (fun _ => ?_))
      | exact ih0 _ _ _
      | exact ih1 _ _ _
      | exact ih2 _ _ _ _
      | exact LeO.none _
      | refine LeO.ite ?_ ?_
      | refine LeO.bind ?_ (fun _ => ?_)
    · intro y0 y1 y2
      unfold retconref23_May.l0
      repeat' first
      | (with_reducible exact ih0 _ _ _)
      | (with_reducible exact ih1 _ _ _)
      | (with_reducible exact ih2 _ _ _ _)
      | (with_reducible exact LeO.refl _)
      | (with_reducible exact LeO.none _)
      | (with_reducible refine LeO.ite ?_ ?_)
      | (with_reducible refine LeO.bind ?_ (fun _ => ?_))
      | exact ih0 _ _ _
      | exact ih1 _ _ _
      | exact ih2 _ _ _ _
      | exact LeO.none _
      | refine LeO.ite ?_ ?_
      | refine LeO.bind ?_ (fun _ => ?_)
    · intro y0 y1 y2 y3
      unfold retconref23_May.j2
      repeat' first
      | (with_reducible exact ih0 _ _ _)
      | (with_reducible exact ih1 _ _ _)
      | (with_reducible exact ih2 _ _ _ _)
      | (with_reducible exact LeO.refl _)
      | (with_reducible exact LeO.none _)
      | (with_reducible refine LeO.ite ?_ ?_)
      | (with_reducible refine LeO.bind ?_ (fun _ => ?_))
      | exact ih0 _ _ _
      | exact ih1 _ _ _
      | exact ih2 _ _ _ _
      | exact LeO.none _
      | refine LeO.ite ?_ ?_
      | refine LeO.bind ?_ (fun _ => ?_)
theorem retconref23_May.mono : ∀ a0 a1 k, LeO (retconref23_May.f k a0 a1) (retconref23_May.f (k + 1) a0 a1) := by
  intro a0 a1 k
  obtain ⟨ih0, ih1, ih2⟩ := retconref23_May.mono_l k
  unfold retconref23_May.f
  repeat' first
      | (with_reducible exact ih0 _ _ _)
      | (with_reducible exact ih1 _ _ _)
      | (with_reducible exact ih2 _ _ _ _)
      | (with_reducible exact LeO.refl _)
      | (with_reducible exact LeO.none _)
      | (with_reducible refine LeO.ite ?_ ?_)
      | (with_reducible refine LeO.bind ?_ (fun _ => ?_))
      | exact ih0 _ _ _
      | exact ih1 _ _ _
      | exact ih2 _ _ _ _
      | exact LeO.none _
      | refine LeO.ite ?_ ?_
      | refine LeO.bind ?_ (fun _ => ?_)
set_option maxHeartbeats 8000000 in
set_option maxRecDepth 100000 in
theorem retconref23_May.calls (k : Nat) (A0 : Option Addr) (c0 : Nat) (l0 : List (S27)) (a1 : Int) (r : Int) (w : World) (hr0 : Kd.C k27 w A0 l0.length l0) (hc0 : l0.length ≤ c0) (h : retconref23_May.f k l0 a1 = some r) :
    Calls Try.prog 21 #[.slice A0 l0.length c0, .int .i64 a1] w fun e w' => e = .returned (.int .i64 r) ∧ Drawn0 w w' := by
  have HR0 := Aside0.mk hr0
  have HC0 := Aside0.mk hc0
  clear hr0 hc0
  have H : (if a1 < 0 then (retconref23_May.j0 k l0 a1 true) else (retconref23_May.j0 k l0 a1 (decide (a1 > 500)))) = some r := h
  clear h
  have HC3 := Aside0.mk H
  clear H
  go_enter Try.func21, Try.ntmps21
  go_upto_region 1 with (fail)
  repeat (go_quiet (fail); go_upto_region 1 with (fail))
  go_cut [11] (fun v11 wc => ∃ (kq : Nat) (x11_2 : Bool), v11 = .bool x11_2 ∧ Aside0 (retconref23_May.j0 kq l0 a1 x11_2 = some r) ∧ Aside0 (kq ≤ k) ∧ Drawn0 w wc)
  case first =>
    have H := HC3.out
    clear HC3
    by_cases c4 : a1 < 0
    · rw [if_pos c4] at H
      have c4b0 : decide (a1 < 0) = true := decide_eq_true c4
      clear c4
      (first | rw [c4b0] | (simp only [i64_w, i32_w]; rw [c4b0]) | skip)
      have H' := Aside0.mk H
      clear H
      go_wp2
      repeat (go_quiet (fail); try go_wp2)
      go_meet
      case rel => exact ⟨_, (true), (by first | rfl | (simp; done) | (simp [*]; done)), H', ⟨by first | omega | exact Nat.le_refl _⟩, by repeat (first | exact Drawn0.refl _ | apply Drawn0.step)⟩
    · rw [if_neg c4] at H
      have c4b0 : decide (a1 < 0) = false := decide_eq_false c4
      clear c4
      (first | rw [c4b0] | (simp only [i64_w, i32_w]; rw [c4b0]) | skip)
      have H' := Aside0.mk H
      clear H
      go_wp2
      repeat (go_quiet (fail); try go_wp2)
      go_meet
      case rel => exact ⟨_, (decide (a1 > 500)), (by first | rfl | (simp; done) | (simp [*]; done)), H', ⟨by first | omega | exact Nat.le_refl _⟩, by repeat (first | exact Drawn0.refl _ | apply Drawn0.step)⟩
  case rest =>
    clear HC3
    try clear c2
    try clear p2
    try clear c4
    try clear c4b0
    obtain ⟨kq, x11_2, rfl, HA, HJ2, ⟨mc2, rfl⟩⟩ := hcut
    cases kq with
    | zero => exact absurd HA.out (by simp [retconref23_May.j0])
    | succ kj2 =>
      have H := HA.out
      clear HA
      simp only [retconref23_May.j0] at H
      by_cases c5 : x11_2 = true
      · subst c5
        have H1 : (some 5) = some r := by rw [if_pos rfl] at H; exact H
        clear H
        have H := H1
        clear H1
        obtain rfl := Option.some.inj H
        go_wp2
        repeat (go_quiet (fail); try go_wp2)
        go_ret
        exact ⟨by first | rfl | (simp; done) | (simp [*]; done), by repeat (first | exact Drawn0.refl _ | apply Drawn0.step)⟩
      · replace c5 := Bool.eq_false_iff.mpr c5
        subst c5
        have H1 : (retconref23_May.l0 kj2 l0 a1 0) = some r := by rw [if_neg (show ¬ (false = true) by decide)] at H; exact H
        clear H
        have H := H1
        clear H1
        have H' := Aside0.mk H
        clear H
        go_wp2
        repeat (go_quiet (fail); try go_wp2)
        go_loopg [5] kj2 (fun kq v5 w' => ∃ (x5_2 : Int), v5 = .int .i64 x5_2 ∧ Aside0 (retconref23_May.l0 kq l0 a1 x5_2 = some r) ∧ Aside0 (kq ≤ kj2) ∧ Drawn0 w w')
        case atStart => exact ⟨(0), (by first | rfl | (simp; done) | (simp [*]; done)), H', ⟨Nat.le_refl _⟩, by repeat (first | exact Drawn0.refl _ | apply Drawn0.step)⟩
        case round =>
          clear H'
          try clear c2
          try clear p2
          try clear c4
          try clear c4b0
          try clear c5
          try clear p2
          obtain ⟨x5_2, rfl, HA, HK2, ⟨m2, rfl⟩⟩ := hrel
          cases gk with
          | zero => exact absurd HA.out (by simp [retconref23_May.l0])
          | succ k2 =>
            have H := HA.out
            clear HA
            simp only [retconref23_May.l0] at H
            by_cases c6 : x5_2 < (l0.length : Int)
            · rw [if_pos c6] at H
              have c6b0 : decide (x5_2 < (l0.length : Int)) = true := decide_eq_true c6
              clear c6
              have HC7 := Aside0.mk H
              clear H
              go_upto_region 6 with (fail)
              repeat (go_quiet (fail); go_upto_region 6 with (fail))
              go_cut [59] (fun v59 wc => ∃ (kq : Nat) (x59_6 : Bool), v59 = .bool x59_6 ∧ Aside0 (retconref23_May.j2 kq l0 a1 x5_2 x59_6 = some r) ∧ Aside0 (kq ≤ k2) ∧ Drawn0 w wc)
              case first =>
                have H := HC7.out
                clear HC7
                by_cases c8 : 0 ≤ x5_2
                · rw [if_pos c8] at H
                  have c8b0 : decide (0 ≤ x5_2) = true := decide_eq_true c8
                  clear c8
                  (first | rw [c8b0] | (simp only [i64_w, i32_w]; rw [c8b0]) | skip)
                  by_cases c9 : ((rd_T27 l0 x5_2).f0) < 1
                  · rw [if_pos c9] at H
                    have c9b0 : decide (((rd_T27 l0 x5_2).f0) < 1) = true := decide_eq_true c9
                    clear c9
                    have H' := Aside0.mk H
                    clear H
                    have p112 : 0 ≤ (x5_2 : Int) := of_decide_eq_true (by first | (with_reducible assumption) | assumption)
                    have q112 : x5_2 < (l0.length : Int) := of_decide_eq_true (by first | (with_reducible assumption) | assumption)
                    obtain ⟨ad112, e112, hx112_0, hx112_1, hx112_2, hx112_3, hx112_4, hx112_5, hx112_6, hx112_7, hx112_8, hx112_9, hx112_10, hx112_11, hx112_12, hx112_13, hx112_14, hx112_15, hx112_16, hx112_17, hx112_18, hx112_19, hx112_20, hx112_21, hx112_22, hx112_23, hx112_24, hx112_25, hx112_26, hx112_27, hx112_28, hx112_29, hx112_30, hx112_31, hx112_32⟩ := at_T27 HR0.out x5_2 p112 q112
                    cases e112
                    (first | (obtain ⟨hr112, hrn112⟩ := row27_mk hx112_0 hx112_1 hx112_2 hx112_3 hx112_4 hx112_5 hx112_6 hx112_7 hx112_8 hx112_9 hx112_10 hx112_11 hx112_12 hx112_13 hx112_14 hx112_15 hx112_16 hx112_17 hx112_18 hx112_19 hx112_20 hx112_21 hx112_22 hx112_23 hx112_24 hx112_25 hx112_26 hx112_27 hx112_28 hx112_29 hx112_30 hx112_31 hx112_32; clear hx112_1 hx112_2 hx112_3 hx112_4 hx112_5 hx112_6 hx112_7 hx112_8 hx112_9 hx112_10 hx112_11 hx112_12 hx112_13 hx112_14 hx112_15 hx112_16 hx112_17 hx112_18 hx112_19 hx112_20 hx112_21 hx112_22 hx112_23 hx112_24 hx112_25 hx112_26 hx112_27 hx112_28 hx112_29 hx112_30 hx112_31 hx112_32) | skip)
                    replace p112 := eq_true p112
                    replace q112 := eq_true q112
                    go_wp2
                    repeat (go_quiet (fail); try go_wp2)
                    go_meet
                    case rel => exact ⟨_, (true), (by first | rfl | (simp; done) | (simp [*]; done)), H', ⟨by have := HJ2.out; have := HK2.out; first | omega | exact Nat.le_refl _⟩, by repeat (first | exact Drawn0.refl _ | apply Drawn0.step)⟩
                  · rw [if_neg c9] at H
                    have c9b0 : decide (((rd_T27 l0 x5_2).f0) < 1) = false := decide_eq_false c9
                    clear c9
                    by_cases c10 : ((rd_T27 l0 x5_2).f0) > a1
                    · rw [if_pos c10] at H
                      have c10b0 : decide (a1 < ((rd_T27 l0 x5_2).f0)) = true := decide_eq_true c10
                      clear c10
                      have H' := Aside0.mk H
                      clear H
                      have p112 : 0 ≤ (x5_2 : Int) := of_decide_eq_true (by first | (with_reducible assumption) | assumption)
                      have q112 : x5_2 < (l0.length : Int) := of_decide_eq_true (by first | (with_reducible assumption) | assumption)
                      obtain ⟨ad112, e112, hx112_0, hx112_1, hx112_2, hx112_3, hx112_4, hx112_5, hx112_6, hx112_7, hx112_8, hx112_9, hx112_10, hx112_11, hx112_12, hx112_13, hx112_14, hx112_15, hx112_16, hx112_17, hx112_18, hx112_19, hx112_20, hx112_21, hx112_22, hx112_23, hx112_24, hx112_25, hx112_26, hx112_27, hx112_28, hx112_29, hx112_30, hx112_31, hx112_32⟩ := at_T27 HR0.out x5_2 p112 q112
                      cases e112
                      (first | (obtain ⟨hr112, hrn112⟩ := row27_mk hx112_0 hx112_1 hx112_2 hx112_3 hx112_4 hx112_5 hx112_6 hx112_7 hx112_8 hx112_9 hx112_10 hx112_11 hx112_12 hx112_13 hx112_14 hx112_15 hx112_16 hx112_17 hx112_18 hx112_19 hx112_20 hx112_21 hx112_22 hx112_23 hx112_24 hx112_25 hx112_26 hx112_27 hx112_28 hx112_29 hx112_30 hx112_31 hx112_32; clear hx112_1 hx112_2 hx112_3 hx112_4 hx112_5 hx112_6 hx112_7 hx112_8 hx112_9 hx112_10 hx112_11 hx112_12 hx112_13 hx112_14 hx112_15 hx112_16 hx112_17 hx112_18 hx112_19 hx112_20 hx112_21 hx112_22 hx112_23 hx112_24 hx112_25 hx112_26 hx112_27 hx112_28 hx112_29 hx112_30 hx112_31 hx112_32) | skip)
                      replace p112 := eq_true p112
                      replace q112 := eq_true q112
                      have p113 : 0 ≤ (x5_2 : Int) := of_decide_eq_true (by first | (with_reducible assumption) | assumption)
                      have q113 : x5_2 < (l0.length : Int) := of_decide_eq_true (by first | (with_reducible assumption) | assumption)
                      obtain ⟨ad113, e113, hx113_0, hx113_1, hx113_2, hx113_3, hx113_4, hx113_5, hx113_6, hx113_7, hx113_8, hx113_9, hx113_10, hx113_11, hx113_12, hx113_13, hx113_14, hx113_15, hx113_16, hx113_17, hx113_18, hx113_19, hx113_20, hx113_21, hx113_22, hx113_23, hx113_24, hx113_25, hx113_26, hx113_27, hx113_28, hx113_29, hx113_30, hx113_31, hx113_32⟩ := at_T27 HR0.out x5_2 p113 q113
                      obtain rfl : ad112 = ad113 := (by injection e113)
                      (first | (obtain ⟨hr113, hrn113⟩ := row27_mk hx113_0 hx113_1 hx113_2 hx113_3 hx113_4 hx113_5 hx113_6 hx113_7 hx113_8 hx113_9 hx113_10 hx113_11 hx113_12 hx113_13 hx113_14 hx113_15 hx113_16 hx113_17 hx113_18 hx113_19 hx113_20 hx113_21 hx113_22 hx113_23 hx113_24 hx113_25 hx113_26 hx113_27 hx113_28 hx113_29 hx113_30 hx113_31 hx113_32; clear hx113_1 hx113_2 hx113_3 hx113_4 hx113_5 hx113_6 hx113_7 hx113_8 hx113_9 hx113_10 hx113_11 hx113_12 hx113_13 hx113_14 hx113_15 hx113_16 hx113_17 hx113_18 hx113_19 hx113_20 hx113_21 hx113_22 hx113_23 hx113_24 hx113_25 hx113_26 hx113_27 hx113_28 hx113_29 hx113_30 hx113_31 hx113_32) | skip)
                      replace p113 := eq_true p113
                      replace q113 := eq_true q113
                      go_wp2
                      repeat (go_quiet (fail); try go_wp2)
                      go_meet
                      case rel => exact ⟨_, (true), (by first | rfl | (simp; done) | (simp [*]; done)), H', ⟨by have := HJ2.out; have := HK2.out; first | omega | exact Nat.le_refl _⟩, by repeat (first | exact Drawn0.refl _ | apply Drawn0.step)⟩
                    · rw [if_neg c10] at H
                      have c10b0 : decide (a1 < ((rd_T27 l0 x5_2).f0)) = false := decide_eq_false c10
                      clear c10
                      by_cases c11 : (Int.tmod ((rd_T27 l0 x5_2).f0) 8) = 0
                      · rw [if_pos c11] at H
                        have c11b0 : ((Int.tmod ((rd_T27 l0 x5_2).f0) 8) == 0) = true := beq_iff_eq.mpr c11
                        have c11b1 : ((Int.tmod ((rd_T27 l0 x5_2).f0) 8) != 0) = false := bne_eq_false_iff_eq.mpr c11
                        clear c11
                        by_cases c12 : x5_2 > 0
                        · rw [if_pos c12] at H
                          have c12b0 : decide (0 < x5_2) = true := decide_eq_true c12
                          clear c12
                          obtain ⟨ji13, hji13⟩ : ∃ j_ : Int, (wrap64 (x5_2 - 1)) = j_ := ⟨_, rfl⟩
                          replace H : (if 0 ≤ (ji13) then (if (ji13) < (l0.length : Int) then (retconref23_May.j2 k2 l0 a1 x5_2 (decide (((rd_T27 l0 (ji13)).f0) ≥ ((rd_T27 l0 x5_2).f0)))) else (none)) else (none)) = some r := by first | (rw [hji13] at H; exact H) | (simp only [hji13] at H ⊢; exact H)
                          have hji13w : (IntKind.i64.wrap (x5_2 - 1)) = ji13 := (i64_w _).trans hji13
                          by_cases c14 : 0 ≤ (ji13)
                          · rw [if_pos c14] at H
                            have c14b0 : decide (0 ≤ (ji13)) = true := decide_eq_true c14
                            clear c14
                            by_cases c15 : (ji13) < (l0.length : Int)
                            · rw [if_pos c15] at H
                              have c15b0 : decide ((ji13) < (l0.length : Int)) = true := decide_eq_true c15
                              clear c15
                              have H' := Aside0.mk H
                              clear H
                              have p112 : 0 ≤ (x5_2 : Int) := of_decide_eq_true (by first | (with_reducible assumption) | assumption)
                              have q112 : x5_2 < (l0.length : Int) := of_decide_eq_true (by first | (with_reducible assumption) | assumption)
                              obtain ⟨ad112, e112, hx112_0, hx112_1, hx112_2, hx112_3, hx112_4, hx112_5, hx112_6, hx112_7, hx112_8, hx112_9, hx112_10, hx112_11, hx112_12, hx112_13, hx112_14, hx112_15, hx112_16, hx112_17, hx112_18, hx112_19, hx112_20, hx112_21, hx112_22, hx112_23, hx112_24, hx112_25, hx112_26, hx112_27, hx112_28, hx112_29, hx112_30, hx112_31, hx112_32⟩ := at_T27 HR0.out x5_2 p112 q112
                              cases e112
                              (first | (obtain ⟨hr112, hrn112⟩ := row27_mk hx112_0 hx112_1 hx112_2 hx112_3 hx112_4 hx112_5 hx112_6 hx112_7 hx112_8 hx112_9 hx112_10 hx112_11 hx112_12 hx112_13 hx112_14 hx112_15 hx112_16 hx112_17 hx112_18 hx112_19 hx112_20 hx112_21 hx112_22 hx112_23 hx112_24 hx112_25 hx112_26 hx112_27 hx112_28 hx112_29 hx112_30 hx112_31 hx112_32; clear hx112_1 hx112_2 hx112_3 hx112_4 hx112_5 hx112_6 hx112_7 hx112_8 hx112_9 hx112_10 hx112_11 hx112_12 hx112_13 hx112_14 hx112_15 hx112_16 hx112_17 hx112_18 hx112_19 hx112_20 hx112_21 hx112_22 hx112_23 hx112_24 hx112_25 hx112_26 hx112_27 hx112_28 hx112_29 hx112_30 hx112_31 hx112_32) | skip)
                              replace p112 := eq_true p112
                              replace q112 := eq_true q112
                              have p113 : 0 ≤ (x5_2 : Int) := of_decide_eq_true (by first | (with_reducible assumption) | assumption)
                              have q113 : x5_2 < (l0.length : Int) := of_decide_eq_true (by first | (with_reducible assumption) | assumption)
                              obtain ⟨ad113, e113, hx113_0, hx113_1, hx113_2, hx113_3, hx113_4, hx113_5, hx113_6, hx113_7, hx113_8, hx113_9, hx113_10, hx113_11, hx113_12, hx113_13, hx113_14, hx113_15, hx113_16, hx113_17, hx113_18, hx113_19, hx113_20, hx113_21, hx113_22, hx113_23, hx113_24, hx113_25, hx113_26, hx113_27, hx113_28, hx113_29, hx113_30, hx113_31, hx113_32⟩ := at_T27 HR0.out x5_2 p113 q113
                              obtain rfl : ad112 = ad113 := (by injection e113)
                              (first | (obtain ⟨hr113, hrn113⟩ := row27_mk hx113_0 hx113_1 hx113_2 hx113_3 hx113_4 hx113_5 hx113_6 hx113_7 hx113_8 hx113_9 hx113_10 hx113_11 hx113_12 hx113_13 hx113_14 hx113_15 hx113_16 hx113_17 hx113_18 hx113_19 hx113_20 hx113_21 hx113_22 hx113_23 hx113_24 hx113_25 hx113_26 hx113_27 hx113_28 hx113_29 hx113_30 hx113_31 hx113_32; clear hx113_1 hx113_2 hx113_3 hx113_4 hx113_5 hx113_6 hx113_7 hx113_8 hx113_9 hx113_10 hx113_11 hx113_12 hx113_13 hx113_14 hx113_15 hx113_16 hx113_17 hx113_18 hx113_19 hx113_20 hx113_21 hx113_22 hx113_23 hx113_24 hx113_25 hx113_26 hx113_27 hx113_28 hx113_29 hx113_30 hx113_31 hx113_32) | skip)
                              replace p113 := eq_true p113
                              replace q113 := eq_true q113
                              have p114 : 0 ≤ (x5_2 : Int) := of_decide_eq_true (by first | (with_reducible assumption) | assumption)
                              have q114 : x5_2 < (l0.length : Int) := of_decide_eq_true (by first | (with_reducible assumption) | assumption)
                              obtain ⟨ad114, e114, hx114_0, hx114_1, hx114_2, hx114_3, hx114_4, hx114_5, hx114_6, hx114_7, hx114_8, hx114_9, hx114_10, hx114_11, hx114_12, hx114_13, hx114_14, hx114_15, hx114_16, hx114_17, hx114_18, hx114_19, hx114_20, hx114_21, hx114_22, hx114_23, hx114_24, hx114_25, hx114_26, hx114_27, hx114_28, hx114_29, hx114_30, hx114_31, hx114_32⟩ := at_T27 HR0.out x5_2 p114 q114
                              obtain rfl : ad112 = ad114 := (by injection e114)
                              (first | (obtain ⟨hr114, hrn114⟩ := row27_mk hx114_0 hx114_1 hx114_2 hx114_3 hx114_4 hx114_5 hx114_6 hx114_7 hx114_8 hx114_9 hx114_10 hx114_11 hx114_12 hx114_13 hx114_14 hx114_15 hx114_16 hx114_17 hx114_18 hx114_19 hx114_20 hx114_21 hx114_22 hx114_23 hx114_24 hx114_25 hx114_26 hx114_27 hx114_28 hx114_29 hx114_30 hx114_31 hx114_32; clear hx114_1 hx114_2 hx114_3 hx114_4 hx114_5 hx114_6 hx114_7 hx114_8 hx114_9 hx114_10 hx114_11 hx114_12 hx114_13 hx114_14 hx114_15 hx114_16 hx114_17 hx114_18 hx114_19 hx114_20 hx114_21 hx114_22 hx114_23 hx114_24 hx114_25 hx114_26 hx114_27 hx114_28 hx114_29 hx114_30 hx114_31 hx114_32) | skip)
                              replace p114 := eq_true p114
                              replace q114 := eq_true q114
                              have p115 : 0 ≤ ((ji13) : Int) := of_decide_eq_true (by first | (with_reducible assumption) | assumption)
                              have q115 : (ji13) < (l0.length : Int) := of_decide_eq_true (by first | (with_reducible assumption) | assumption)
                              obtain ⟨ad115, e115, hx115_0, hx115_1, hx115_2, hx115_3, hx115_4, hx115_5, hx115_6, hx115_7, hx115_8, hx115_9, hx115_10, hx115_11, hx115_12, hx115_13, hx115_14, hx115_15, hx115_16, hx115_17, hx115_18, hx115_19, hx115_20, hx115_21, hx115_22, hx115_23, hx115_24, hx115_25, hx115_26, hx115_27, hx115_28, hx115_29, hx115_30, hx115_31, hx115_32⟩ := at_T27 HR0.out (ji13) p115 q115
                              obtain rfl : ad112 = ad115 := (by injection e115)
                              (first | (obtain ⟨hr115, hrn115⟩ := row27_mk hx115_0 hx115_1 hx115_2 hx115_3 hx115_4 hx115_5 hx115_6 hx115_7 hx115_8 hx115_9 hx115_10 hx115_11 hx115_12 hx115_13 hx115_14 hx115_15 hx115_16 hx115_17 hx115_18 hx115_19 hx115_20 hx115_21 hx115_22 hx115_23 hx115_24 hx115_25 hx115_26 hx115_27 hx115_28 hx115_29 hx115_30 hx115_31 hx115_32; clear hx115_1 hx115_2 hx115_3 hx115_4 hx115_5 hx115_6 hx115_7 hx115_8 hx115_9 hx115_10 hx115_11 hx115_12 hx115_13 hx115_14 hx115_15 hx115_16 hx115_17 hx115_18 hx115_19 hx115_20 hx115_21 hx115_22 hx115_23 hx115_24 hx115_25 hx115_26 hx115_27 hx115_28 hx115_29 hx115_30 hx115_31 hx115_32) | skip)
                              replace p115 := eq_true p115
                              replace q115 := eq_true q115
                              have p116 : 0 ≤ (x5_2 : Int) := of_decide_eq_true (by first | (with_reducible assumption) | assumption)
                              have q116 : x5_2 < (l0.length : Int) := of_decide_eq_true (by first | (with_reducible assumption) | assumption)
                              obtain ⟨ad116, e116, hx116_0, hx116_1, hx116_2, hx116_3, hx116_4, hx116_5, hx116_6, hx116_7, hx116_8, hx116_9, hx116_10, hx116_11, hx116_12, hx116_13, hx116_14, hx116_15, hx116_16, hx116_17, hx116_18, hx116_19, hx116_20, hx116_21, hx116_22, hx116_23, hx116_24, hx116_25, hx116_26, hx116_27, hx116_28, hx116_29, hx116_30, hx116_31, hx116_32⟩ := at_T27 HR0.out x5_2 p116 q116
                              obtain rfl : ad112 = ad116 := (by injection e116)
                              (first | (obtain ⟨hr116, hrn116⟩ := row27_mk hx116_0 hx116_1 hx116_2 hx116_3 hx116_4 hx116_5 hx116_6 hx116_7 hx116_8 hx116_9 hx116_10 hx116_11 hx116_12 hx116_13 hx116_14 hx116_15 hx116_16 hx116_17 hx116_18 hx116_19 hx116_20 hx116_21 hx116_22 hx116_23 hx116_24 hx116_25 hx116_26 hx116_27 hx116_28 hx116_29 hx116_30 hx116_31 hx116_32; clear hx116_1 hx116_2 hx116_3 hx116_4 hx116_5 hx116_6 hx116_7 hx116_8 hx116_9 hx116_10 hx116_11 hx116_12 hx116_13 hx116_14 hx116_15 hx116_16 hx116_17 hx116_18 hx116_19 hx116_20 hx116_21 hx116_22 hx116_23 hx116_24 hx116_25 hx116_26 hx116_27 hx116_28 hx116_29 hx116_30 hx116_31 hx116_32) | skip)
                              replace p116 := eq_true p116
                              replace q116 := eq_true q116
                              go_wp2
                              repeat (go_quiet (fail); try go_wp2)
                              go_meet
                              case rel => exact ⟨_, (decide (((rd_T27 l0 (ji13)).f0) ≥ ((rd_T27 l0 x5_2).f0))), (by first | rfl | (simp; done) | (simp only [← hji13] <;> (first | rfl | simp)) | (simp [*]; done)), H', ⟨by have := HJ2.out; have := HK2.out; first | omega | exact Nat.le_refl _⟩, by repeat (first | exact Drawn0.refl _ | apply Drawn0.step)⟩
                            · rw [if_neg c15] at H
                              exact absurd H (by simp)
                          · rw [if_neg c14] at H
                            exact absurd H (by simp)
                        · rw [if_neg c12] at H
                          have c12b0 : decide (0 < x5_2) = false := decide_eq_false c12
                          clear c12
                          have H' := Aside0.mk H
                          clear H
                          have p112 : 0 ≤ (x5_2 : Int) := of_decide_eq_true (by first | (with_reducible assumption) | assumption)
                          have q112 : x5_2 < (l0.length : Int) := of_decide_eq_true (by first | (with_reducible assumption) | assumption)
                          obtain ⟨ad112, e112, hx112_0, hx112_1, hx112_2, hx112_3, hx112_4, hx112_5, hx112_6, hx112_7, hx112_8, hx112_9, hx112_10, hx112_11, hx112_12, hx112_13, hx112_14, hx112_15, hx112_16, hx112_17, hx112_18, hx112_19, hx112_20, hx112_21, hx112_22, hx112_23, hx112_24, hx112_25, hx112_26, hx112_27, hx112_28, hx112_29, hx112_30, hx112_31, hx112_32⟩ := at_T27 HR0.out x5_2 p112 q112
                          cases e112
                          (first | (obtain ⟨hr112, hrn112⟩ := row27_mk hx112_0 hx112_1 hx112_2 hx112_3 hx112_4 hx112_5 hx112_6 hx112_7 hx112_8 hx112_9 hx112_10 hx112_11 hx112_12 hx112_13 hx112_14 hx112_15 hx112_16 hx112_17 hx112_18 hx112_19 hx112_20 hx112_21 hx112_22 hx112_23 hx112_24 hx112_25 hx112_26 hx112_27 hx112_28 hx112_29 hx112_30 hx112_31 hx112_32; clear hx112_1 hx112_2 hx112_3 hx112_4 hx112_5 hx112_6 hx112_7 hx112_8 hx112_9 hx112_10 hx112_11 hx112_12 hx112_13 hx112_14 hx112_15 hx112_16 hx112_17 hx112_18 hx112_19 hx112_20 hx112_21 hx112_22 hx112_23 hx112_24 hx112_25 hx112_26 hx112_27 hx112_28 hx112_29 hx112_30 hx112_31 hx112_32) | skip)
                          replace p112 := eq_true p112
                          replace q112 := eq_true q112
                          have p113 : 0 ≤ (x5_2 : Int) := of_decide_eq_true (by first | (with_reducible assumption) | assumption)
                          have q113 : x5_2 < (l0.length : Int) := of_decide_eq_true (by first | (with_reducible assumption) | assumption)
                          obtain ⟨ad113, e113, hx113_0, hx113_1, hx113_2, hx113_3, hx113_4, hx113_5, hx113_6, hx113_7, hx113_8, hx113_9, hx113_10, hx113_11, hx113_12, hx113_13, hx113_14, hx113_15, hx113_16, hx113_17, hx113_18, hx113_19, hx113_20, hx113_21, hx113_22, hx113_23, hx113_24, hx113_25, hx113_26, hx113_27, hx113_28, hx113_29, hx113_30, hx113_31, hx113_32⟩ := at_T27 HR0.out x5_2 p113 q113
                          obtain rfl : ad112 = ad113 := (by injection e113)
                          (first | (obtain ⟨hr113, hrn113⟩ := row27_mk hx113_0 hx113_1 hx113_2 hx113_3 hx113_4 hx113_5 hx113_6 hx113_7 hx113_8 hx113_9 hx113_10 hx113_11 hx113_12 hx113_13 hx113_14 hx113_15 hx113_16 hx113_17 hx113_18 hx113_19 hx113_20 hx113_21 hx113_22 hx113_23 hx113_24 hx113_25 hx113_26 hx113_27 hx113_28 hx113_29 hx113_30 hx113_31 hx113_32; clear hx113_1 hx113_2 hx113_3 hx113_4 hx113_5 hx113_6 hx113_7 hx113_8 hx113_9 hx113_10 hx113_11 hx113_12 hx113_13 hx113_14 hx113_15 hx113_16 hx113_17 hx113_18 hx113_19 hx113_20 hx113_21 hx113_22 hx113_23 hx113_24 hx113_25 hx113_26 hx113_27 hx113_28 hx113_29 hx113_30 hx113_31 hx113_32) | skip)
                          replace p113 := eq_true p113
                          replace q113 := eq_true q113
                          have p114 : 0 ≤ (x5_2 : Int) := of_decide_eq_true (by first | (with_reducible assumption) | assumption)
                          have q114 : x5_2 < (l0.length : Int) := of_decide_eq_true (by first | (with_reducible assumption) | assumption)
                          obtain ⟨ad114, e114, hx114_0, hx114_1, hx114_2, hx114_3, hx114_4, hx114_5, hx114_6, hx114_7, hx114_8, hx114_9, hx114_10, hx114_11, hx114_12, hx114_13, hx114_14, hx114_15, hx114_16, hx114_17, hx114_18, hx114_19, hx114_20, hx114_21, hx114_22, hx114_23, hx114_24, hx114_25, hx114_26, hx114_27, hx114_28, hx114_29, hx114_30, hx114_31, hx114_32⟩ := at_T27 HR0.out x5_2 p114 q114
                          obtain rfl : ad112 = ad114 := (by injection e114)
                          (first | (obtain ⟨hr114, hrn114⟩ := row27_mk hx114_0 hx114_1 hx114_2 hx114_3 hx114_4 hx114_5 hx114_6 hx114_7 hx114_8 hx114_9 hx114_10 hx114_11 hx114_12 hx114_13 hx114_14 hx114_15 hx114_16 hx114_17 hx114_18 hx114_19 hx114_20 hx114_21 hx114_22 hx114_23 hx114_24 hx114_25 hx114_26 hx114_27 hx114_28 hx114_29 hx114_30 hx114_31 hx114_32; clear hx114_1 hx114_2 hx114_3 hx114_4 hx114_5 hx114_6 hx114_7 hx114_8 hx114_9 hx114_10 hx114_11 hx114_12 hx114_13 hx114_14 hx114_15 hx114_16 hx114_17 hx114_18 hx114_19 hx114_20 hx114_21 hx114_22 hx114_23 hx114_24 hx114_25 hx114_26 hx114_27 hx114_28 hx114_29 hx114_30 hx114_31 hx114_32) | skip)
                          replace p114 := eq_true p114
                          replace q114 := eq_true q114
                          go_wp2
                          repeat (go_quiet (fail); try go_wp2)
                          go_meet
                          case rel => exact ⟨_, (false), (by first | rfl | (simp; done) | (simp [*]; done)), H', ⟨by have := HJ2.out; have := HK2.out; first | omega | exact Nat.le_refl _⟩, by repeat (first | exact Drawn0.refl _ | apply Drawn0.step)⟩
                      · rw [if_neg c11] at H
                        have c11b0 : ((Int.tmod ((rd_T27 l0 x5_2).f0) 8) == 0) = false := beq_eq_false_iff_ne.mpr c11
                        have c11b1 : ((Int.tmod ((rd_T27 l0 x5_2).f0) 8) != 0) = true := bne_iff_ne.mpr c11
                        have H' := Aside0.mk H
                        clear H
                        have p112 : 0 ≤ (x5_2 : Int) := of_decide_eq_true (by first | (with_reducible assumption) | assumption)
                        have q112 : x5_2 < (l0.length : Int) := of_decide_eq_true (by first | (with_reducible assumption) | assumption)
                        obtain ⟨ad112, e112, hx112_0, hx112_1, hx112_2, hx112_3, hx112_4, hx112_5, hx112_6, hx112_7, hx112_8, hx112_9, hx112_10, hx112_11, hx112_12, hx112_13, hx112_14, hx112_15, hx112_16, hx112_17, hx112_18, hx112_19, hx112_20, hx112_21, hx112_22, hx112_23, hx112_24, hx112_25, hx112_26, hx112_27, hx112_28, hx112_29, hx112_30, hx112_31, hx112_32⟩ := at_T27 HR0.out x5_2 p112 q112
                        cases e112
                        (first | (obtain ⟨hr112, hrn112⟩ := row27_mk hx112_0 hx112_1 hx112_2 hx112_3 hx112_4 hx112_5 hx112_6 hx112_7 hx112_8 hx112_9 hx112_10 hx112_11 hx112_12 hx112_13 hx112_14 hx112_15 hx112_16 hx112_17 hx112_18 hx112_19 hx112_20 hx112_21 hx112_22 hx112_23 hx112_24 hx112_25 hx112_26 hx112_27 hx112_28 hx112_29 hx112_30 hx112_31 hx112_32; clear hx112_1 hx112_2 hx112_3 hx112_4 hx112_5 hx112_6 hx112_7 hx112_8 hx112_9 hx112_10 hx112_11 hx112_12 hx112_13 hx112_14 hx112_15 hx112_16 hx112_17 hx112_18 hx112_19 hx112_20 hx112_21 hx112_22 hx112_23 hx112_24 hx112_25 hx112_26 hx112_27 hx112_28 hx112_29 hx112_30 hx112_31 hx112_32) | skip)
                        replace p112 := eq_true p112
                        replace q112 := eq_true q112
                        have p113 : 0 ≤ (x5_2 : Int) := of_decide_eq_true (by first | (with_reducible assumption) | assumption)
                        have q113 : x5_2 < (l0.length : Int) := of_decide_eq_true (by first | (with_reducible assumption) | assumption)
                        obtain ⟨ad113, e113, hx113_0, hx113_1, hx113_2, hx113_3, hx113_4, hx113_5, hx113_6, hx113_7, hx113_8, hx113_9, hx113_10, hx113_11, hx113_12, hx113_13, hx113_14, hx113_15, hx113_16, hx113_17, hx113_18, hx113_19, hx113_20, hx113_21, hx113_22, hx113_23, hx113_24, hx113_25, hx113_26, hx113_27, hx113_28, hx113_29, hx113_30, hx113_31, hx113_32⟩ := at_T27 HR0.out x5_2 p113 q113
                        obtain rfl : ad112 = ad113 := (by injection e113)
                        (first | (obtain ⟨hr113, hrn113⟩ := row27_mk hx113_0 hx113_1 hx113_2 hx113_3 hx113_4 hx113_5 hx113_6 hx113_7 hx113_8 hx113_9 hx113_10 hx113_11 hx113_12 hx113_13 hx113_14 hx113_15 hx113_16 hx113_17 hx113_18 hx113_19 hx113_20 hx113_21 hx113_22 hx113_23 hx113_24 hx113_25 hx113_26 hx113_27 hx113_28 hx113_29 hx113_30 hx113_31 hx113_32; clear hx113_1 hx113_2 hx113_3 hx113_4 hx113_5 hx113_6 hx113_7 hx113_8 hx113_9 hx113_10 hx113_11 hx113_12 hx113_13 hx113_14 hx113_15 hx113_16 hx113_17 hx113_18 hx113_19 hx113_20 hx113_21 hx113_22 hx113_23 hx113_24 hx113_25 hx113_26 hx113_27 hx113_28 hx113_29 hx113_30 hx113_31 hx113_32) | skip)
                        replace p113 := eq_true p113
                        replace q113 := eq_true q113
                        have p114 : 0 ≤ (x5_2 : Int) := of_decide_eq_true (by first | (with_reducible assumption) | assumption)
                        have q114 : x5_2 < (l0.length : Int) := of_decide_eq_true (by first | (with_reducible assumption) | assumption)
                        obtain ⟨ad114, e114, hx114_0, hx114_1, hx114_2, hx114_3, hx114_4, hx114_5, hx114_6, hx114_7, hx114_8, hx114_9, hx114_10, hx114_11, hx114_12, hx114_13, hx114_14, hx114_15, hx114_16, hx114_17, hx114_18, hx114_19, hx114_20, hx114_21, hx114_22, hx114_23, hx114_24, hx114_25, hx114_26, hx114_27, hx114_28, hx114_29, hx114_30, hx114_31, hx114_32⟩ := at_T27 HR0.out x5_2 p114 q114
                        obtain rfl : ad112 = ad114 := (by injection e114)
                        (first | (obtain ⟨hr114, hrn114⟩ := row27_mk hx114_0 hx114_1 hx114_2 hx114_3 hx114_4 hx114_5 hx114_6 hx114_7 hx114_8 hx114_9 hx114_10 hx114_11 hx114_12 hx114_13 hx114_14 hx114_15 hx114_16 hx114_17 hx114_18 hx114_19 hx114_20 hx114_21 hx114_22 hx114_23 hx114_24 hx114_25 hx114_26 hx114_27 hx114_28 hx114_29 hx114_30 hx114_31 hx114_32; clear hx114_1 hx114_2 hx114_3 hx114_4 hx114_5 hx114_6 hx114_7 hx114_8 hx114_9 hx114_10 hx114_11 hx114_12 hx114_13 hx114_14 hx114_15 hx114_16 hx114_17 hx114_18 hx114_19 hx114_20 hx114_21 hx114_22 hx114_23 hx114_24 hx114_25 hx114_26 hx114_27 hx114_28 hx114_29 hx114_30 hx114_31 hx114_32) | skip)
                        replace p114 := eq_true p114
                        replace q114 := eq_true q114
                        go_wp2
                        repeat (go_quiet (fail); try go_wp2)
                        go_meet
                        case rel => exact ⟨_, (true), (by first | rfl | (simp; done) | (simp [*]; done)), H', ⟨by have := HJ2.out; have := HK2.out; first | omega | exact Nat.le_refl _⟩, by repeat (first | exact Drawn0.refl _ | apply Drawn0.step)⟩
                · rw [if_neg c8] at H
                  exact absurd H (by simp)
              case rest =>
                clear HC7
                try clear c1
                try clear p1
                try clear q1
                try clear hx1
                try clear c2
                try clear p2
                try clear c4
                try clear c4b0
                try clear c5
                try clear c6
                try clear c6b0
                try clear p6
                try clear c8
                try clear c8b0
                try clear c9
                try clear c9b0
                try clear c10
                try clear c10b0
                try clear c11
                try clear c11b0
                try clear c11b1
                try clear p11
                try clear q11
                try clear hx11
                try clear c12
                try clear c12b0
                try clear c14
                try clear c14b0
                try clear c15
                try clear c15b0
                try clear hx112_0
                try clear hx112_1
                try clear hx112_10
                try clear hx112_11
                try clear hx112_12
                try clear hx112_13
                try clear hx112_14
                try clear hx112_15
                try clear hx112_16
                try clear hx112_17
                try clear hx112_18
                try clear hx112_19
                try clear hx112_2
                try clear hx112_20
                try clear hx112_21
                try clear hx112_22
                try clear hx112_23
                try clear hx112_24
                try clear hx112_25
                try clear hx112_26
                try clear hx112_27
                try clear hx112_28
                try clear hx112_29
                try clear hx112_3
                try clear hx112_30
                try clear hx112_31
                try clear hx112_32
                try clear hx112_4
                try clear hx112_5
                try clear hx112_6
                try clear hx112_7
                try clear hx112_8
                try clear hx112_9
                try clear hx113_0
                try clear hx113_1
                try clear hx113_10
                try clear hx113_11
                try clear hx113_12
                try clear hx113_13
                try clear hx113_14
                try clear hx113_15
                try clear hx113_16
                try clear hx113_17
                try clear hx113_18
                try clear hx113_19
                try clear hx113_2
                try clear hx113_20
                try clear hx113_21
                try clear hx113_22
                try clear hx113_23
                try clear hx113_24
                try clear hx113_25
                try clear hx113_26
                try clear hx113_27
                try clear hx113_28
                try clear hx113_29
                try clear hx113_3
                try clear hx113_30
                try clear hx113_31
                try clear hx113_32
                try clear hx113_4
                try clear hx113_5
                try clear hx113_6
                try clear hx113_7
                try clear hx113_8
                try clear hx113_9
                try clear hx114_0
                try clear hx114_1
                try clear hx114_10
                try clear hx114_11
                try clear hx114_12
                try clear hx114_13
                try clear hx114_14
                try clear hx114_15
                try clear hx114_16
                try clear hx114_17
                try clear hx114_18
                try clear hx114_19
                try clear hx114_2
                try clear hx114_20
                try clear hx114_21
                try clear hx114_22
                try clear hx114_23
                try clear hx114_24
                try clear hx114_25
                try clear hx114_26
                try clear hx114_27
                try clear hx114_28
                try clear hx114_29
                try clear hx114_3
                try clear hx114_30
                try clear hx114_31
                try clear hx114_32
                try clear hx114_4
                try clear hx114_5
                try clear hx114_6
                try clear hx114_7
                try clear hx114_8
                try clear hx114_9
                try clear hx115_0
                try clear hx115_1
                try clear hx115_10
                try clear hx115_11
                try clear hx115_12
                try clear hx115_13
                try clear hx115_14
                try clear hx115_15
                try clear hx115_16
                try clear hx115_17
                try clear hx115_18
                try clear hx115_19
                try clear hx115_2
                try clear hx115_20
                try clear hx115_21
                try clear hx115_22
                try clear hx115_23
                try clear hx115_24
                try clear hx115_25
                try clear hx115_26
                try clear hx115_27
                try clear hx115_28
                try clear hx115_29
                try clear hx115_3
                try clear hx115_30
                try clear hx115_31
                try clear hx115_32
                try clear hx115_4
                try clear hx115_5
                try clear hx115_6
                try clear hx115_7
                try clear hx115_8
                try clear hx115_9
                try clear hx116_0
                try clear hx116_1
                try clear hx116_10
                try clear hx116_11
                try clear hx116_12
                try clear hx116_13
                try clear hx116_14
                try clear hx116_15
                try clear hx116_16
                try clear hx116_17
                try clear hx116_18
                try clear hx116_19
                try clear hx116_2
                try clear hx116_20
                try clear hx116_21
                try clear hx116_22
                try clear hx116_23
                try clear hx116_24
                try clear hx116_25
                try clear hx116_26
                try clear hx116_27
                try clear hx116_28
                try clear hx116_29
                try clear hx116_3
                try clear hx116_30
                try clear hx116_31
                try clear hx116_32
                try clear hx116_4
                try clear hx116_5
                try clear hx116_6
                try clear hx116_7
                try clear hx116_8
                try clear hx116_9
                try clear p112
                try clear p113
                try clear p114
                try clear p115
                try clear p116
                try clear p2
                try clear q112
                try clear q113
                try clear q114
                try clear q115
                try clear q116
                obtain ⟨kq, x59_6, rfl, HA, HJ6, ⟨mc6, rfl⟩⟩ := hcut
                cases kq with
                | zero => exact absurd HA.out (by simp [retconref23_May.j2])
                | succ kj6 =>
                  have H := HA.out
                  clear HA
                  simp only [retconref23_May.j2] at H
                  by_cases c16 : x59_6 = true
                  · subst c16
                    have H1 : (some 2) = some r := by rw [if_pos rfl] at H; exact H
                    clear H
                    have H := H1
                    clear H1
                    obtain rfl := Option.some.inj H
                    go_wp2
                    repeat (go_quiet (fail); try go_wp2)
                    go_ret
                    exact ⟨by first | rfl | (simp; done) | (simp [*]; done), by repeat (first | exact Drawn0.refl _ | apply Drawn0.step)⟩
                  · replace c16 := Bool.eq_false_iff.mpr c16
                    subst c16
                    have H1 : (retconref23_May.l0 kj6 l0 a1 (wrap64 (x5_2 + 1))) = some r := by rw [if_neg (show ¬ (false = true) by decide)] at H; exact H
                    clear H
                    have H := H1
                    clear H1
                    have H' := Aside0.mk H
                    clear H
                    go_wp2
                    repeat (go_quiet (fail); try go_wp2)
                    go_roundg kj6
                    case measure => have := HJ2.out; have := HK2.out; have := HJ6.out; omega
                    case rel => exact ⟨(wrap64 (x5_2 + 1)), (by first | rfl | (simp; done) | (simp [*]; done)), H', ⟨by have := HJ2.out; have := HK2.out; have := HJ6.out; omega⟩, by repeat (first | exact Drawn0.refl _ | apply Drawn0.step)⟩
            · rw [if_neg c6] at H
              have c6b0 : decide (x5_2 < (l0.length : Int)) = false := decide_eq_false c6
              clear c6
              obtain rfl := Option.some.inj H
              go_wp2
              repeat (go_quiet (fail); try go_wp2)
              go_ret
              exact ⟨by first | rfl | (simp; done) | (simp [*]; done), by repeat (first | exact Drawn0.refl _ | apply Drawn0.step)⟩

end Go.Proofs.Ytgippbgcmmjnbaa.XB
