-- Printed by xprint.py (a program of this work, over the kit's print.py). Lean checks it.
import Derived.Test.YtobleaodacnpiaaXE0
import Derived.Test.YtobleaodacnpiaaXEfextentCheck
import Derived.Test.YtobleaodacnpiaaXEfextentlistcut
namespace Go.Proofs.Ytobleaodacnpiaa.XE
open Go.RowKit Go.Proofs.YtobleaodacnpiaaW.PrintWords Go.Proofs.YtobleaodacnpiaaW.PrintLast Go.Proofs.YtobleaodacnpiaaW.PrintMore
attribute [local go_sem] max2_int min2_int max_two min_two max_three min_three max_four min_four   -- for this text's walks alone
set_option linter.unusedVariables false
set_option linter.unusedSimpArgs false

/-! ### extent_Alloc: function 10 -/
def extent_Alloc.l0 : Nat → List (S42) → Int → Int → Option Int
  | 0, _, _, _ => none
  | k + 1, l, n, i => if i < (l.length : Int) then (if (rd_T42 l i).f1 ≥ n then some i else extent_Alloc.l0 k l n (i + 1)) else some (-1)
def extent_Alloc.f (k : Nat) (l0 : List (S42)) (a1 : Int) : Option (Int × List (S42) × Int) :=
  (extent_Check.f k l0).bind fun t => if t = 0 then (if a1 < 1 then some (0, [], 2) else (extent_Alloc.l0 k l0 a1 0).bind fun i => if i < 0 then some (0, [], 8) else if i < (l0.length : Int) then (extent_list_cut.f k l0 i (rd_T42 l0 i).f0 a1).bind fun r => some ((rd_T42 l0 i).f0, r, 0) else none) else some (0, [], 2)
theorem extent_Alloc.mono_l : ∀ k, (∀ y0 y1 y2, LeO (extent_Alloc.l0 k y0 y1 y2) (extent_Alloc.l0 (k + 1) y0 y1 y2))
  | 0 => fun _ _ _ r h => by simp [extent_Alloc.l0] at h
  | k + 1 => by
    have ih0 := extent_Alloc.mono_l k
    intro y0 y1 y2
    unfold extent_Alloc.l0
    exact LeO.ite (LeO.ite (LeO.refl _) (ih0 _ _ _)) (LeO.refl _)
theorem extent_Alloc.mono : ∀ a0 a1 k, LeO (extent_Alloc.f k a0 a1) (extent_Alloc.f (k + 1) a0 a1) := by
  intro a0 a1 k
  unfold extent_Alloc.f
  refine LeO.bind (extent_Check.mono _ k) fun t => LeO.ite (LeO.ite (LeO.refl _) (LeO.bind (extent_Alloc.mono_l k _ _ _) fun i => LeO.ite (LeO.refl _) (LeO.ite (LeO.bind (extent_list_cut.mono _ _ _ _ k) fun r => LeO.refl _) (LeO.refl _)))) (LeO.refl _)
set_option maxHeartbeats 8000000 in
set_option maxRecDepth 100000 in
theorem extent_Alloc.cl (x0 x1 n : Int) (g : Nat) (w : World) (hg : w.cell? ⟨g, 0, none⟩ = some (.int .i64 n)) :
    Calls Try.prog 27 #[.agg #[.int .i64 x0, .int .i64 x1], .pointer (some ⟨g, 0, none⟩)] w fun e w' => e = .returned (.bool (decide (x1 ≥ n))) ∧ Below w.heap.size w w' := by
  have hgx := pw_cell_below (below_alloc (Below.refl _ _) (.cells #[.int .i64 x0, .int .i64 x1] 42)) hg
  have hlt := World.block_lt_of_cell? w _ hg
  go_enter Try.func27, Try.ntmps27
  go_wp2
  go_ret
  exact ⟨rfl, below_alloc (Below.refl _ _) _⟩
set_option maxHeartbeats 8000000 in
set_option maxRecDepth 100000 in
theorem extent_Alloc.ix (k : Nat) (A0 : Option Addr) (c0 : Nat) (l0 : List (S42)) (n : Int) (g : Nat) (r : Int) (w : World) (hg : w.cell? ⟨g, 0, none⟩ = some (.int .i64 n)) (hr0 : Kd.C k42 w A0 l0.length l0) (h : extent_Alloc.l0 k l0 n 0 = some r) :
    Calls Try.prog 26 #[.slice A0 l0.length c0, .func (.func 27) #[] #[.pointer (some ⟨g, 0, none⟩)]] w fun e w' => e = .returned (.int .i64 r) ∧ Below w.heap.size w w' := by
  have HR0 := Aside0.mk hr0
  have H' := Aside0.mk h
  have HG := Aside0.mk hg
  have hlm : l0.length ≤ 9223372036854775807 := hr0.2.1
  clear hr0 h hg
  go_enter Try.func26, Try.ntmps26
  go_wp2
  go_loopg [8, 5] k (fun kq v8 v5 w' => ∃ (x8 : Int), v8 = .int .i64 x8 ∧ 0 ≤ x8 ∧ x8 ≤ l0.length ∧ Aside0 (extent_Alloc.l0 kq l0 n x8 = some r) ∧ Aside0 (kq ≤ k) ∧ Aside0 (Below w.heap.size w w'))
  case atStart => exact ⟨0, rfl, by omega, by omega, H', ⟨Nat.le_refl _⟩, ⟨Below.refl _ _⟩⟩
  case round =>
    clear H'
    obtain ⟨x8, rfl, h1, h2, HA, HK, HB⟩ := hrel
    cases gk with
    | zero => exact absurd HA.out (by simp [extent_Alloc.l0])
    | succ k1 =>
      have H := HA.out
      clear HA
      simp only [extent_Alloc.l0] at H
      have HGr := Aside0.mk (pw_cell_below HB.out HG.out)
      by_cases c1 : x8 < (l0.length : Int)
      · rw [if_pos c1] at H
        have hd : decide (x8 < (l0.length : Int)) = true := decide_eq_true c1
        obtain ⟨ad, rfl, hx0, hx1⟩ := at_T42 HR0.out _ h1 c1
        replace hx0 := (HB.out.cell (World.block_lt_of_cell? w _ hx0)).trans hx0
        replace hx1 := (HB.out.cell (World.block_lt_of_cell? w _ hx1)).trans hx1
        by_cases c2 : (rd_T42 l0 x8).f1 ≥ n
        · rw [if_pos c2] at H
          obtain rfl := Option.some.inj H
          go_wp2_with (go_at_call 27; refine (extent_Alloc.cl _ _ _ _ _ HGr.out).mono ?_; rintro e w' ⟨rfl, hb⟩; rw [decide_eq_true c2]; have HB2 := Aside0.mk (below_step HB.out hb); clear hb)
          go_ret
          exact ⟨rfl, HB2.out⟩
        · rw [if_neg c2] at H
          have HH := Aside0.mk H
          clear H
          go_wp2_with (go_at_call 27; refine (extent_Alloc.cl _ _ _ _ _ HGr.out).mono ?_; rintro e w' ⟨rfl, hb⟩; rw [decide_eq_false c2]; have HB2 := Aside0.mk (below_step HB.out hb); clear hb)
          go_roundg k1
          case measure => have := HK.out; omega
          case rel => exact ⟨x8 + 1, rfl, by omega, by omega, HH, ⟨by have := HK.out; omega⟩, HB2⟩
      · rw [if_neg c1] at H
        obtain rfl := Option.some.inj H
        have hd : decide (x8 < (l0.length : Int)) = false := decide_eq_false c1
        go_wp2
        go_ret
        exact ⟨rfl, HB.out⟩
set_option maxHeartbeats 8000000 in
set_option maxRecDepth 100000 in
theorem extent_Alloc.calls (k : Nat) (A0 : Option Addr) (c0 : Nat) (l0 : List (S42)) (a1 : Int) (r1 : Int) (r2 : List (S42)) (r3 : Int) (w : World) (hr0 : Kd.C k42 w A0 l0.length l0) (hc0 : l0.length ≤ c0) (h : extent_Alloc.f k l0 a1 = some (r1, r2, r3)) :
    Calls Try.prog 10 #[.slice A0 l0.length c0, .int .i64 a1] w fun e w' => ∃ v1_ : Value, e = .returned (.tuple #[.int .i64 r1, v1_, .int .i64 r3]) ∧ Kd.R k42 42 w' w.heap.size (fun _ => True) v1_ r2 ∧ Below w.heap.size w w' := by
  unfold extent_Alloc.f at h
  obtain ⟨t, ht, h⟩ := Option.bind_eq_some_iff.1 h
  have HR0 := Aside0.mk hr0
  have HC0 := Aside0.mk hc0
  have HT := Aside0.mk ht
  have HB0 := Aside0.mk (below_alloc (Below.refl w.heap.size w) (.cells #[.int .i64 a1] 3))
  have HG := Aside0.mk (show (w.alloc (.cells #[.int .i64 a1] 3)).cell? ⟨w.heap.size, 0, none⟩ = some (.int .i64 a1) by simp)
  clear hr0 hc0 ht
  by_cases c1 : t = 0
  · rw [if_pos c1] at h
    have d1 : (t == 0) = true := beq_iff_eq.mpr c1
    have d2 : (t != 0) = false := bne_eq_false_iff_eq.mpr c1
    clear c1
    by_cases c2 : a1 < 1
    · rw [if_pos c2] at h
      have d3 : decide (a1 < 1) = true := decide_eq_true c2
      obtain ⟨rfl, rfl, rfl⟩ : 0 = r1 ∧ [] = r2 ∧ 2 = r3 := by simpa using h
      go_enter Try.func10, Try.ntmps10
      go_wp2_with (go_at_call 18; refine (extent_Check.calls k _ _ _ t _ (Kd.C_below HR0.out HB0.out) HC0.out HT.out).mono ?_; rintro e w' ⟨rfl, hb⟩; have HB := Aside0.mk (below_step HB0.out hb); have HGr := Aside0.mk (pw_cell_below hb HG.out); have HGx := HGr.out; clear hb)
      go_ret3
      exact ⟨_, rfl, Kd.R_nil _ _ _ _ _, HB.out⟩
    · rw [if_neg c2] at h
      have d3 : decide (a1 < 1) = false := decide_eq_false c2
      obtain ⟨i, hi, h⟩ := Option.bind_eq_some_iff.1 h
      have HI := Aside0.mk hi
      clear hi
      by_cases c3 : i < 0
      · rw [if_pos c3] at h
        have d4 : decide (i < 0) = true := decide_eq_true c3
        obtain ⟨rfl, rfl, rfl⟩ : 0 = r1 ∧ [] = r2 ∧ 8 = r3 := by simpa using h
        go_enter Try.func10, Try.ntmps10
        go_wp2_with (first | (go_at_call 18; refine (extent_Check.calls k _ _ _ t _ (Kd.C_below HR0.out HB0.out) HC0.out HT.out).mono ?_; rintro e w' ⟨rfl, hb⟩; have HB := Aside0.mk (below_step HB0.out hb); have HGr := Aside0.mk (pw_cell_below hb HG.out); have HGx := HGr.out; clear hb) | (go_at_call 26; refine (extent_Alloc.ix k _ _ _ a1 _ i _ HGr.out (Kd.C_below HR0.out HB.out) HI.out).mono ?_; rintro e w' ⟨rfl, hb⟩; have HB2 := Aside0.mk (below_step HB.out hb); clear hb))
        go_ret3
        exact ⟨_, rfl, Kd.R_nil _ _ _ _ _, HB2.out⟩
      · rw [if_neg c3] at h
        have d4 : decide (i < 0) = false := decide_eq_false c3
        by_cases c4 : i < (l0.length : Int)
        · rw [if_pos c4] at h
          obtain ⟨rr, hrr, h⟩ := Option.bind_eq_some_iff.1 h
          obtain ⟨rfl, rfl, rfl⟩ : (rd_T42 l0 i).f0 = r1 ∧ rr = r2 ∧ 0 = r3 := by simpa using h
          have HRR := Aside0.mk hrr
          clear hrr h
          have p1 : 0 ≤ i := by omega
          obtain ⟨ad, rfl, hx0, hx1⟩ := at_T42 HR0.out i p1 c4
          have HX0 := Aside0.mk hx0
          clear hx0 hx1
          go_enter Try.func10, Try.ntmps10
          go_wp2_with (first | (go_at_call 18; refine (extent_Check.calls k _ _ _ t _ (Kd.C_below HR0.out HB0.out) HC0.out HT.out).mono ?_; rintro e w' ⟨rfl, hb⟩; have HB := Aside0.mk (below_step HB0.out hb); have HGr := Aside0.mk (pw_cell_below hb HG.out); have HGx := HGr.out; clear hb) | (go_at_call 26; refine (extent_Alloc.ix k _ _ _ a1 _ i _ HGr.out (Kd.C_below HR0.out HB.out) HI.out).mono ?_; rintro e w' ⟨rfl, hb⟩; have HB2 := Aside0.mk (below_step HB.out hb); have HGs := Aside0.mk (pw_cell_below hb HGr.out); have HGy := HGs.out; have HXs := pw_cell_below HB2.out HX0.out; clear hb HGx) | (go_at_call 28; refine (extent_list_cut.calls k _ _ _ i _ a1 rr _ (Kd.C_below HR0.out HB2.out) HC0.out HRR.out).mono ?_; rintro e w' ⟨v0_, rfl, hR, hb⟩; have HB3 := Aside0.mk (below_step HB2.out hb); have HR3 := Aside0.mk (Kd.R_lower hR (below_size HB2.out)); clear hR hb))
          go_ret3
          exact ⟨_, rfl, HR3.out, HB3.out⟩
        · rw [if_neg c4] at h
          cases h
  · rw [if_neg c1] at h
    have d1 : (t == 0) = false := beq_eq_false_iff_ne.mpr c1
    have d2 : (t != 0) = true := bne_iff_ne.mpr c1
    obtain ⟨rfl, rfl, rfl⟩ : 0 = r1 ∧ [] = r2 ∧ 2 = r3 := by simpa using h
    go_enter Try.func10, Try.ntmps10
    go_wp2_with (go_at_call 18; refine (extent_Check.calls k _ _ _ t _ (Kd.C_below HR0.out HB0.out) HC0.out HT.out).mono ?_; rintro e w' ⟨rfl, hb⟩; have HB := Aside0.mk (below_step HB0.out hb); have HGr := Aside0.mk (pw_cell_below hb HG.out); have HGx := HGr.out; clear hb)
    go_ret3
    exact ⟨_, rfl, Kd.R_nil _ _ _ _ _, HB.out⟩

end Go.Proofs.Ytobleaodacnpiaa.XE
