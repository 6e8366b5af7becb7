-- Printed by xprint.py (a program of this work, over the kit's print.py). Lean checks it.
import Derived.Test.YtobleaodacnpiaaXE0
import Derived.Test.YtobleaodacnpiaaXEfextentend
namespace Go.Proofs.Ytobleaodacnpiaa.XE
open Go.RowKit Go.Proofs.YtobleaodacnpiaaW.PrintWords Go.Proofs.YtobleaodacnpiaaW.PrintLast Go.Proofs.YtobleaodacnpiaaW.PrintMore
attribute [local go_sem] max2_int min2_int max_two min_two max_three min_three max_four min_four   -- for this text's walks alone
set_option linter.unusedVariables false
set_option linter.unusedSimpArgs false

/-! ### extent_list_place: function 32 -/
def extent_list_place.c (x : S42) (at_ : Int) : Int := if wrap64 (x.f0 + x.f1) ≤ at_ then -1 else 1
def extent_list_place.l0 : Nat → List (S42) → Int → Int → Int → Option Int
  | 0, _, _, _, _ => none
  | k + 1, l, at_, i, j => if i < j then (if wrap64 ((rd_T42 l ((i + j) / 2)).f0 + (rd_T42 l ((i + j) / 2)).f1) ≤ at_ then extent_list_place.l0 k l at_ ((i + j) / 2 + 1) j else extent_list_place.l0 k l at_ i ((i + j) / 2)) else some i
def extent_list_place.f (k : Nat) (l0 : List (S42)) (a1 : Int) : Option Int := if l0.length < 8796093022208 then extent_list_place.l0 k l0 a1 0 l0.length else none
theorem extent_list_place.mono_l : ∀ k, (∀ y0 y1 y2 y3, LeO (extent_list_place.l0 k y0 y1 y2 y3) (extent_list_place.l0 (k + 1) y0 y1 y2 y3))
  | 0 => fun _ _ _ _ r h => by simp [extent_list_place.l0] at h
  | k + 1 => by
    have ih0 := extent_list_place.mono_l k
    intro y0 y1 y2 y3
    unfold extent_list_place.l0
    exact LeO.ite (LeO.ite (ih0 _ _ _ _) (ih0 _ _ _ _)) (LeO.refl _)
theorem extent_list_place.mono : ∀ a0 a1 k, LeO (extent_list_place.f k a0 a1) (extent_list_place.f (k + 1) a0 a1) := by
  intro a0 a1 k
  unfold extent_list_place.f
  exact LeO.ite (extent_list_place.mono_l k _ _ _ _) (LeO.none _)
set_option maxHeartbeats 8000000 in
set_option maxRecDepth 100000 in
theorem extent_list_place.cl (x0 x1 at_ : Int) (w : World) :
    Calls Try.prog 41 #[.agg #[.int .i64 x0, .int .i64 x1], .int .i64 at_] w fun e w' => e = .returned (.int .i64 (if wrap64 (x0 + x1) ≤ at_ then -1 else 1)) ∧ Below w.heap.size w w' := by
  by_cases h : wrap64 (x0 + x1) ≤ at_
  · rw [if_pos h]
    have h1 : decide (wrap64 (x0 + x1) ≤ at_) = true := decide_eq_true h
    go_enter Try.func41, Try.ntmps41
    go_wp2_with (go_at_call 33; refine (extent_end.calls x0 x1 _ _ rfl).mono ?_; rintro e w' ⟨rfl, hb⟩; have HB := Aside0.mk hb; clear hb)
    go_ret
    exact ⟨rfl, below_then (below_alloc (Below.refl _ _) _) (by simp) HB.out⟩
  · rw [if_neg h]
    have h1 : decide (wrap64 (x0 + x1) ≤ at_) = false := decide_eq_false h
    go_enter Try.func41, Try.ntmps41
    go_wp2_with (go_at_call 33; refine (extent_end.calls x0 x1 _ _ rfl).mono ?_; rintro e w' ⟨rfl, hb⟩; have HB := Aside0.mk hb; clear hb)
    go_ret
    exact ⟨rfl, below_then (below_alloc (Below.refl _ _) _) (by simp) HB.out⟩
def extent_list_place.Q (r : Int) (w : World) (e : Ending) (w' : World) : Prop := ∃ b, e = .returned (.tuple #[.int .i64 r, .bool b]) ∧ Below w.heap.size w w'
set_option maxHeartbeats 8000000 in
set_option maxRecDepth 100000 in
theorem extent_list_place.bs (k : Nat) (A0 : Option Addr) (c0 : Nat) (l0 : List (S42)) (at_ : Int) (r : Int) (w : World) (hr0 : Kd.C k42 w A0 l0.length l0) (hl : l0.length < 8796093022208) (h : extent_list_place.l0 k l0 at_ 0 l0.length = some r) :
    Calls Try.prog 40 #[.slice A0 l0.length c0, .int .i64 at_, .func (.func 41) #[] #[]] w (extent_list_place.Q r w) := by
  have HR0 := Aside0.mk hr0
  have H' := Aside0.mk h
  clear hr0 h
  have hlI : (l0.length : Int) < 8796093022208 := by omega
  go_enter Try.func40, Try.ntmps40
  go_wp2
  go_loopg [9, 10, 11] k (fun kq v9 v10 v11 w' => ∃ (x9 x10 : Int), v9 = .int .i64 x9 ∧ v10 = .int .i64 x10 ∧ 0 ≤ x9 ∧ x9 ≤ x10 ∧ x10 ≤ l0.length ∧ Aside0 (extent_list_place.l0 kq l0 at_ x9 x10 = some r) ∧ Aside0 (kq ≤ k) ∧ Aside0 (Below w.heap.size w w'))
  case atStart => exact ⟨0, l0.length, rfl, rfl, by omega, by omega, by omega, H', ⟨Nat.le_refl _⟩, ⟨Below.refl _ _⟩⟩
  case round =>
    clear H'
    obtain ⟨x9, x10, rfl, rfl, h1, h2, h3, HA, HK, HB⟩ := hrel
    cases gk with
    | zero => exact absurd HA.out (by simp [extent_list_place.l0])
    | succ k1 =>
      have H := HA.out
      clear HA
      simp only [extent_list_place.l0] at H
      by_cases c1 : x9 < x10
      · rw [if_pos c1] at H
        have hd : decide (x9 < x10) = true := decide_eq_true c1
        have p1 : 0 ≤ (x9 + x10) / 2 := by omega
        have q1 : (x9 + x10) / 2 < (l0.length : Int) := by omega
        have m1 : x9 ≤ (x9 + x10) / 2 := by omega
        have m2 : (x9 + x10) / 2 < x10 := by omega
        obtain ⟨ad, rfl, hx0, hx1⟩ := at_T42 HR0.out _ p1 q1
        replace hx0 := (HB.out.cell (World.block_lt_of_cell? w _ hx0)).trans hx0
        replace hx1 := (HB.out.cell (World.block_lt_of_cell? w _ hx1)).trans hx1
        by_cases c2 : wrap64 ((rd_T42 l0 ((x9 + x10) / 2)).f0 + (rd_T42 l0 ((x9 + x10) / 2)).f1) ≤ at_
        · rw [if_pos c2] at H
          have HH := Aside0.mk H
          clear H
          go_wp2_with (go_at_call 41; refine (extent_list_place.cl _ _ _ _).mono ?_; rintro e w' ⟨rfl, hb⟩; rw [if_pos c2]; have HB2 := Aside0.mk (below_step HB.out hb); clear hb)
          go_roundg k1
          case measure => have := HK.out; omega
          case rel => exact ⟨(x9 + x10) / 2 + 1, x10, rfl, rfl, by omega, by omega, by omega, HH, ⟨by have := HK.out; omega⟩, HB2⟩
        · rw [if_neg c2] at H
          have HH := Aside0.mk H
          clear H
          go_wp2_with (go_at_call 41; refine (extent_list_place.cl _ _ _ _).mono ?_; rintro e w' ⟨rfl, hb⟩; rw [if_neg c2]; have HB2 := Aside0.mk (below_step HB.out hb); clear hb)
          go_roundg k1
          case measure => have := HK.out; omega
          case rel => exact ⟨x9, (x9 + x10) / 2, rfl, rfl, by omega, by omega, by omega, HH, ⟨by have := HK.out; omega⟩, HB2⟩
      · rw [if_neg c1] at H
        obtain rfl := Option.some.inj H
        have hd : decide (x9 < x10) = false := decide_eq_false c1
        obtain rfl : x9 = x10 := by omega
        by_cases c3 : x9 < (l0.length : Int)
        · have hd3 : decide (x9 < (l0.length : Int)) = true := decide_eq_true c3
          obtain ⟨ad, rfl, hx0, hx1⟩ := at_T42 HR0.out _ h1 c3
          replace hx0 := (HB.out.cell (World.block_lt_of_cell? w _ hx0)).trans hx0
          replace hx1 := (HB.out.cell (World.block_lt_of_cell? w _ hx1)).trans hx1
          by_cases c4 : wrap64 ((rd_T42 l0 x9).f0 + (rd_T42 l0 x9).f1) ≤ at_
          · go_wp2_with (go_at_call 41; refine (extent_list_place.cl _ _ _ _).mono ?_; rintro e w' ⟨rfl, hb⟩; rw [if_pos c4]; have HB2 := Aside0.mk (below_step HB.out hb); clear hb)
            go_ret2
            exact ⟨_, rfl, HB2.out⟩
          · go_wp2_with (go_at_call 41; refine (extent_list_place.cl _ _ _ _).mono ?_; rintro e w' ⟨rfl, hb⟩; rw [if_neg c4]; have HB2 := Aside0.mk (below_step HB.out hb); clear hb)
            go_ret2
            exact ⟨_, rfl, HB2.out⟩
        · have hd3 : decide (x9 < (l0.length : Int)) = false := decide_eq_false c3
          go_wp2
          go_ret2
          exact ⟨_, rfl, HB.out⟩
set_option maxHeartbeats 8000000 in
set_option maxRecDepth 100000 in
theorem extent_list_place.calls (k : Nat) (A0 : Option Addr) (c0 : Nat) (l0 : List (S42)) (a1 : Int) (r : Int) (w : World) (hr0 : Kd.C k42 w A0 l0.length l0) (hc0 : l0.length ≤ c0) (h : extent_list_place.f k l0 a1 = some r) :
    Calls Try.prog 32 #[.slice A0 l0.length c0, .int .i64 a1] w fun e w' => e = .returned (.int .i64 r) ∧ Below w.heap.size w w' := by
  unfold extent_list_place.f at h
  split at h
  case isFalse => exact absurd h (by simp)
  rename_i hl
  have HR0 := Aside0.mk hr0
  have HL := Aside0.mk hl
  have HH := Aside0.mk h
  clear hr0 hl h hc0
  go_enter Try.func32, Try.ntmps32
  go_wp2_with (go_at_call 40; refine (extent_list_place.bs k _ _ _ _ r _ HR0.out HL.out HH.out).mono ?_; rintro e w' ⟨b, rfl, hb⟩; have HB2 := Aside0.mk hb; clear hb)
  go_ret
  exact ⟨rfl, HB2.out⟩

end Go.Proofs.Ytobleaodacnpiaa.XE
