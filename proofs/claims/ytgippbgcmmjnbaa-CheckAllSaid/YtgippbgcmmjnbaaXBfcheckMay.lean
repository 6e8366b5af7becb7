-- Printed by xprint.py (a program of this work, over the kit's print.py). Lean checks it.
import Derived.Test.YtgippbgcmmjnbaaXB0
import Derived.Test.YtgippbgcmmjnbaaXBL
import Derived.Test.YtgippbgcmmjnbaaXBgbase
namespace Go.Proofs.Ytgippbgcmmjnbaa.XB
open Go.RowKit Go.Proofs.YtgippbgcmmjnbaaW.PrintWords Go.Proofs.YtgippbgcmmjnbaaW.PrintLast Go.Proofs.YtgippbgcmmjnbaaW.PrintMore
attribute [local go_sem] max2_int min2_int max_two min_two max_three min_three max_four min_four   -- for this text's walks alone
set_option linter.unusedVariables false
set_option linter.unusedSimpArgs false
attribute [local go_sem ↓ high] ld27
attribute [local go_sem high] LD27.new
/-! ### check_May: function 20 -/
attribute [local go_sem ↓ high] st27
attribute [local go_sem high] ST27.elem
def check_May.l0 : Nat → List S27 → Int → Int → Option Int
  | 0, _, _, _ => none
  | k + 1, l, n, i => if i < (l.length : Int) then (check_place.f (rd_T27 l i).f0 n).bind fun t => if t = true then (if i > 0 then (if (rd_T27 l i).f0 ≤ (rd_T27 l (i - 1)).f0 then some 2 else check_May.l0 k l n (i + 1)) else check_May.l0 k l n (i + 1)) else some 2 else some 0
def check_May.f (k : Nat) (l0 : List S27) (a1 : Int) : Option Int := (check_length.f a1).bind fun t => if t = true then check_May.l0 k l0 a1 0 else some 5
theorem check_May.mono_l : ∀ k, (∀ y0 y1 y2, LeO (check_May.l0 k y0 y1 y2) (check_May.l0 (k + 1) y0 y1 y2))
  | 0 => fun _ _ _ r h => by simp [check_May.l0] at h
  | k + 1 => by
    have ih0 := check_May.mono_l k
    intro y0 y1 y2
    unfold check_May.l0
    exact LeO.ite (LeO.bind (LeO.refl _) fun t => LeO.ite (LeO.ite (LeO.ite (LeO.refl _) (ih0 _ _ _)) (ih0 _ _ _)) (LeO.refl _)) (LeO.refl _)
theorem check_May.mono : ∀ a0 a1 k, LeO (check_May.f k a0 a1) (check_May.f (k + 1) a0 a1) := by
  intro a0 a1 k
  unfold check_May.f
  exact LeO.bind (LeO.refl _) fun t => LeO.ite (check_May.mono_l k _ _ _) (LeO.refl _)
set_option maxHeartbeats 8000000 in
set_option maxRecDepth 100000 in
theorem check_May.calls (k : Nat) (A0 : Option Addr) (c0 : Nat) (l0 : List S27) (a1 : Int) (r : Int) (w : World) (hr0 : Kd.C k27 w A0 l0.length l0) (hc0 : l0.length ≤ c0) (h : check_May.f k l0 a1 = some r) :
    Calls Try.prog 20 #[.slice A0 l0.length c0, .int .i64 a1] w fun e w' => e = .returned (.int .i64 r) ∧ Below w.heap.size w w' := by
  have HR0 := Aside0.mk hr0
  have hlm : l0.length ≤ 9223372036854775807 := hr0.2.1
  clear hr0 hc0
  unfold check_May.f at h
  obtain ⟨t, ht, h⟩ := Option.bind_eq_some_iff.1 h
  have HT := Aside0.mk ht
  clear ht
  cases t with
  | false =>
    rw [if_neg (by simp)] at h
    obtain rfl := Option.some.inj h
    go_enter Try.func20, Try.ntmps20
    go_wp2_with (go_at_call 35; refine (check_length.calls a1 false _ HT.out).mono ?_; rintro e w' ⟨rfl, ⟨nd, rfl⟩⟩)
    go_ret
    exact ⟨rfl, pw_below_drewN (Below.refl _ _) _⟩
  | true =>
    rw [if_pos rfl] at h
    have H' := Aside0.mk h
    clear h
    go_enter Try.func20, Try.ntmps20
    go_wp2_with (go_at_call 35; refine (check_length.calls a1 true _ HT.out).mono ?_; rintro e w' ⟨rfl, ⟨nd, rfl⟩⟩)
    go_loopg [12] k (fun kq v12 w' => ∃ (x : Int), v12 = .int .i64 x ∧ 0 ≤ x ∧ x ≤ l0.length ∧ Aside0 (check_May.l0 kq l0 a1 x = some r) ∧ Aside0 (kq ≤ k) ∧ Aside0 (Below w.heap.size w w'))
    case atStart => exact ⟨0, rfl, by omega, by omega, H', ⟨Nat.le_refl _⟩, ⟨pw_below_drewN (Below.refl _ _) _⟩⟩
    case round =>
      clear H'
      obtain ⟨x, rfl, h1, h2, HA, HK, HB⟩ := hrel
      cases gk with
      | zero => exact absurd HA.out (by simp [check_May.l0])
      | succ k1 =>
        have H := HA.out
        clear HA
        simp only [check_May.l0] at H
        by_cases c1 : x < (l0.length : Int)
        · rw [if_pos c1] at H
          have hd : decide (x < (l0.length : Int)) = true := decide_eq_true c1
          have HRr := Aside0.mk (Kd.C_below HR0.out HB.out)
          obtain ⟨ad, rfl, g0, g1, g2, g3, g4, g5, g6, g7, g8, g9, g10, g11, g12, g13, g14, g15, g16, g17, g18, g19, g20, g21, g22, g23, g24, g25, g26, g27, g28, g29, g30, g31, g32⟩ := at_T27 HRr.out x h1 c1
          obtain ⟨hr, hrn⟩ := row27_mk g0 g1 g2 g3 g4 g5 g6 g7 g8 g9 g10 g11 g12 g13 g14 g15 g16 g17 g18 g19 g20 g21 g22 g23 g24 g25 g26 g27 g28 g29 g30 g31 g32
          clear g0 g1 g2 g3 g4 g5 g6 g7 g8 g9 g10 g11 g12 g13 g14 g15 g16 g17 g18 g19 g20 g21 g22 g23 g24 g25 g26 g27 g28 g29 g30 g31 g32
          have HBx := Aside0.mk (below_alloc (Below.refl wr.heap.size wr) (.cells (.int .i64 (rd_T27 l0 x).f0 :: .int .u8 (rd_T27 l0 x).f1.f0 :: .int .u8 (rd_T27 l0 x).f1.f1 :: .int .u8 (rd_T27 l0 x).f1.f2 :: .int .u8 (rd_T27 l0 x).f1.f3 :: .int .u8 (rd_T27 l0 x).f1.f4 :: .int .u8 (rd_T27 l0 x).f1.f5 :: .int .u8 (rd_T27 l0 x).f1.f6 :: .int .u8 (rd_T27 l0 x).f1.f7 :: .int .u8 (rd_T27 l0 x).f1.f8 :: .int .u8 (rd_T27 l0 x).f1.f9 :: .int .u8 (rd_T27 l0 x).f1.f10 :: .int .u8 (rd_T27 l0 x).f1.f11 :: .int .u8 (rd_T27 l0 x).f1.f12 :: .int .u8 (rd_T27 l0 x).f1.f13 :: .int .u8 (rd_T27 l0 x).f1.f14 :: .int .u8 (rd_T27 l0 x).f1.f15 :: .int .u8 (rd_T27 l0 x).f1.f16 :: .int .u8 (rd_T27 l0 x).f1.f17 :: .int .u8 (rd_T27 l0 x).f1.f18 :: .int .u8 (rd_T27 l0 x).f1.f19 :: .int .u8 (rd_T27 l0 x).f1.f20 :: .int .u8 (rd_T27 l0 x).f1.f21 :: .int .u8 (rd_T27 l0 x).f1.f22 :: .int .u8 (rd_T27 l0 x).f1.f23 :: .int .u8 (rd_T27 l0 x).f1.f24 :: .int .u8 (rd_T27 l0 x).f1.f25 :: .int .u8 (rd_T27 l0 x).f1.f26 :: .int .u8 (rd_T27 l0 x).f1.f27 :: .int .u8 (rd_T27 l0 x).f1.f28 :: .int .u8 (rd_T27 l0 x).f1.f29 :: .int .u8 (rd_T27 l0 x).f1.f30 :: .int .u8 (rd_T27 l0 x).f1.f31 :: []).toArray 27))
          obtain ⟨w9, hw9⟩ : ∃ w9, wr.alloc (.cells (.int .i64 (rd_T27 l0 x).f0 :: .int .u8 (rd_T27 l0 x).f1.f0 :: .int .u8 (rd_T27 l0 x).f1.f1 :: .int .u8 (rd_T27 l0 x).f1.f2 :: .int .u8 (rd_T27 l0 x).f1.f3 :: .int .u8 (rd_T27 l0 x).f1.f4 :: .int .u8 (rd_T27 l0 x).f1.f5 :: .int .u8 (rd_T27 l0 x).f1.f6 :: .int .u8 (rd_T27 l0 x).f1.f7 :: .int .u8 (rd_T27 l0 x).f1.f8 :: .int .u8 (rd_T27 l0 x).f1.f9 :: .int .u8 (rd_T27 l0 x).f1.f10 :: .int .u8 (rd_T27 l0 x).f1.f11 :: .int .u8 (rd_T27 l0 x).f1.f12 :: .int .u8 (rd_T27 l0 x).f1.f13 :: .int .u8 (rd_T27 l0 x).f1.f14 :: .int .u8 (rd_T27 l0 x).f1.f15 :: .int .u8 (rd_T27 l0 x).f1.f16 :: .int .u8 (rd_T27 l0 x).f1.f17 :: .int .u8 (rd_T27 l0 x).f1.f18 :: .int .u8 (rd_T27 l0 x).f1.f19 :: .int .u8 (rd_T27 l0 x).f1.f20 :: .int .u8 (rd_T27 l0 x).f1.f21 :: .int .u8 (rd_T27 l0 x).f1.f22 :: .int .u8 (rd_T27 l0 x).f1.f23 :: .int .u8 (rd_T27 l0 x).f1.f24 :: .int .u8 (rd_T27 l0 x).f1.f25 :: .int .u8 (rd_T27 l0 x).f1.f26 :: .int .u8 (rd_T27 l0 x).f1.f27 :: .int .u8 (rd_T27 l0 x).f1.f28 :: .int .u8 (rd_T27 l0 x).f1.f29 :: .int .u8 (rd_T27 l0 x).f1.f30 :: .int .u8 (rd_T27 l0 x).f1.f31 :: []).toArray 27) = w9 := ⟨_, rfl⟩
          have hb9 : w9.cell? ⟨wr.heap.size, 0, none⟩ = some (.int .i64 (rd_T27 l0 x).f0) := by rw [← hw9]; simp
          have HB9 := Aside0.mk (show Below w.heap.size w w9 from by rw [← hw9]; exact below_alloc HB.out _)
          have HW9 := Aside0.mk hw9
          clear hw9
          obtain ⟨t, ht, H⟩ := Option.bind_eq_some_iff.1 H
          have HP := Aside0.mk ht
          clear ht
          cases t with
          | false =>
            rw [if_neg (by simp)] at H
            obtain rfl := Option.some.inj H
            go_wp2
            rw [HW9.out]
            go_quiet (first | (go_at_call 37; refine (check_place.calls _ _ false _ HP.out).mono ?_; rintro e w' ⟨rfl, ⟨nd, rfl⟩⟩; first | exact ⟨rfl, _, World.drewN_drewN _ _ _⟩ | exact ⟨rfl, _, Eq.trans (World.drewN_drewN _ _ _) (congrArg (World.drewN _) (Nat.add_assoc _ _ _))⟩))
            go_wp2
            go_ret
            exact ⟨rfl, pw_below_drewN HB9.out _⟩
          | true =>
            rw [if_pos rfl] at H
            by_cases c2 : x > 0
            · rw [if_pos c2] at H
              have d2 : decide (0 < x) = true := decide_eq_true c2
              obtain ⟨y, hyx⟩ : ∃ y, wrap64 (x - 1) = y := ⟨_, rfl⟩
              have hyy : y = x - 1 := by rw [← hyx]; unfold wrap64; omega
              have hyi : IntKind.i64.wrap (x - 1) = y := by rw [i64_w]; exact hyx
              have hya := Aside0.mk hyy
              rw [← hyy] at H
              clear hyy
              have p1 : 0 ≤ y := by have := hya.out; omega
              have q1 : y < (l0.length : Int) := by have := hya.out; omega
              obtain ⟨ad2, e2, hy, hys⟩ := at_T27 HRr.out y p1 q1
              clear hys
              cases e2
              have hz : w9.cell? (ad.add (y.toNat * 33)) = some (.int .i64 (rd_T27 l0 y).f0) := by rw [← HW9.out]; exact pw_cell_below HBx.out hy
              by_cases c3 : (rd_T27 l0 x).f0 ≤ (rd_T27 l0 y).f0
              · rw [if_pos c3] at H
                obtain rfl := Option.some.inj H
                have d3 : decide ((rd_T27 l0 x).f0 ≤ (rd_T27 l0 y).f0) = true := decide_eq_true c3
                go_wp2
                rw [HW9.out]
                go_quiet (first | (go_at_call 37; refine (check_place.calls _ _ true _ HP.out).mono ?_; rintro e w' ⟨rfl, ⟨nd, rfl⟩⟩; first | exact ⟨rfl, _, World.drewN_drewN _ _ _⟩ | exact ⟨rfl, _, Eq.trans (World.drewN_drewN _ _ _) (congrArg (World.drewN _) (Nat.add_assoc _ _ _))⟩))
                go_wp2
                go_ret
                exact ⟨rfl, pw_below_drewN HB9.out _⟩
              · rw [if_neg c3] at H
                have HH := Aside0.mk H
                clear H
                have d3 : decide ((rd_T27 l0 x).f0 ≤ (rd_T27 l0 y).f0) = false := decide_eq_false c3
                go_wp2
                rw [HW9.out]
                go_quiet (first | (go_at_call 37; refine (check_place.calls _ _ true _ HP.out).mono ?_; rintro e w' ⟨rfl, ⟨nd, rfl⟩⟩; first | exact ⟨rfl, _, World.drewN_drewN _ _ _⟩ | exact ⟨rfl, _, Eq.trans (World.drewN_drewN _ _ _) (congrArg (World.drewN _) (Nat.add_assoc _ _ _))⟩))
                go_wp2
                go_roundg k1
                case measure => have := HK.out; omega
                case rel => exact ⟨x + 1, rfl, by omega, by omega, HH, ⟨by have := HK.out; omega⟩, ⟨pw_below_drewN HB9.out _⟩⟩
            · rw [if_neg c2] at H
              have HH := Aside0.mk H
              clear H
              have d2 : decide (0 < x) = false := decide_eq_false c2
              go_wp2
              rw [HW9.out]
              go_quiet (first | (go_at_call 37; refine (check_place.calls _ _ true _ HP.out).mono ?_; rintro e w' ⟨rfl, ⟨nd, rfl⟩⟩; first | exact ⟨rfl, _, World.drewN_drewN _ _ _⟩ | exact ⟨rfl, _, Eq.trans (World.drewN_drewN _ _ _) (congrArg (World.drewN _) (Nat.add_assoc _ _ _))⟩))
              go_wp2
              go_roundg k1
              case measure => have := HK.out; omega
              case rel => exact ⟨x + 1, rfl, by omega, by omega, HH, ⟨by have := HK.out; omega⟩, ⟨pw_below_drewN HB9.out _⟩⟩
        · rw [if_neg c1] at H
          obtain rfl := Option.some.inj H
          have hd : decide (x < (l0.length : Int)) = false := decide_eq_false c1
          go_wp2
          go_ret
          exact ⟨rfl, HB.out⟩

end Go.Proofs.Ytgippbgcmmjnbaa.XB
