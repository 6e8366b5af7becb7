import Derived.Test.YtobleaodacnpiaaTh2
namespace Go.Proofs.Ytobleaodacnpiaa.Th
open Go.RowKit Go.Proofs.Ytobleaodacnpiaa.XE Go.Proofs.YtobleaodacnpiaaW.PrintWords Go.Proofs.YtobleaodacnpiaaW.PrintLast Go.Proofs.YtobleaodacnpiaaXe
set_option linter.unusedVariables false

/-! ### Free: the part ahead takes the row in, if it ends where the row begins; so does the part behind -/
/-- the part ahead of the row, and the row with the extent that ends where it begins -/
def joinL : List S42 → S42 → List S42 × S42
  | [], x => ([], x)
  | [y], x => if y.f0 + y.f1 = x.f0 then ([], ⟨y.f0, y.f1 + x.f1⟩) else ([y], x)
  | y :: z :: r, x => ((y :: (joinL (z :: r) x).1), (joinL (z :: r) x).2)
def joinR (x : S42) : List S42 → List S42
  | [] => [x]
  | y :: r => if x.f0 + x.f1 = y.f0 then ⟨x.f0, x.f1 + y.f1⟩ :: r else x :: y :: r
def ins (A : List S42) (x : S42) (B : List S42) : List S42 := (joinL A x).1 ++ joinR (joinL A x).2 B
theorem joinL_last (A : List S42) (y x : S42) : joinL (A ++ [y]) x = if y.f0 + y.f1 = x.f0 then (A, ⟨y.f0, y.f1 + x.f1⟩) else (A ++ [y], x) := by
  induction A with
  | nil => rfl
  | cons a A ih =>
    have : joinL (a :: A ++ [y]) x = (a :: (joinL (A ++ [y]) x).1, (joinL (A ++ [y]) x).2) := by
      cases A <;> rfl
    rw [this, ih]
    by_cases c : y.f0 + y.f1 = x.f0
    · simp [c]
    · simp [c]
/-- what joinL tells of the row: it ends where it ended, begins no later; what lies ahead ends ahead of it -/
theorem joinL_facts {A : List S42} {x : S42} (hv : Va (-1) A) (hx : 1 ≤ x.f1) (hA : ∀ y ∈ A, y.f0 + y.f1 ≤ x.f0) :
    (joinL A x).2.f0 + (joinL A x).2.f1 = x.f0 + x.f1 ∧ (joinL A x).2.f0 ≤ x.f0 ∧ 1 ≤ (joinL A x).2.f1 ∧ (∀ y ∈ (joinL A x).1, y.f0 + y.f1 < (joinL A x).2.f0) ∧ Va (-1) (joinL A x).1 ∧ (0 ≤ x.f0 → 0 ≤ (joinL A x).2.f0) ∧
    sum (joinL A x).1 + (joinL A x).2.f1 = sum A + x.f1 ∧ (joinL A x).1.length ≤ A.length ∧
    (∀ s, (Has (joinL A x).1 s ∨ ((joinL A x).2.f0 ≤ s ∧ s < (joinL A x).2.f0 + (joinL A x).2.f1)) ↔ (Has A s ∨ (x.f0 ≤ s ∧ s < x.f0 + x.f1))) := by
  rcases List.eq_nil_or_concat A with rfl | ⟨A', y, rfl⟩
  · simp only [joinL]
    refine ⟨by trivial, Int.le_refl _, hx, fun y hy => (by cases hy), trivial, fun h => h, by trivial, Nat.le_refl _, fun s => by trivial⟩
  · simp only [List.concat_eq_append] at *
    rw [joinL_last]
    obtain ⟨hv1, e', h1, hv2, h2, _⟩ := hv.app
    obtain ⟨h3, h4, h5, _⟩ := hv2
    have hy := hv.mem (x := y) (by simp)
    by_cases c : y.f0 + y.f1 = x.f0
    · simp only [c, if_true]
      refine ⟨by omega, by omega, by omega, fun z hz => ?_, hv1, fun _ => by omega, ?_, by simp, fun s => ?_⟩
      · have := h2 z hz; omega
      · rw [sum_app]; simp [sum]; omega
      · constructor
        · rintro (⟨z, hz, h⟩ | h)
          · exact Or.inl ⟨z, by simp [hz], h⟩
          · by_cases hs : s < x.f0
            · exact Or.inl ⟨y, by simp, by omega, by omega⟩
            · exact Or.inr (by omega)
        · rintro (⟨z, hz, h⟩ | h)
          · rcases List.mem_append.mp hz with hz | hz
            · exact Or.inl ⟨z, hz, h⟩
            · simp at hz; subst hz; exact Or.inr (by omega)
          · exact Or.inr (by omega)
    · simp only [c, if_false]
      refine ⟨by trivial, Int.le_refl _, hx, fun z hz => ?_, hv, fun h => h, by trivial, Nat.le_refl _, fun s => by trivial⟩
      have := hA z hz
      rcases List.mem_append.mp hz with hz | hz
      · have := h2 z hz
        have := hA y (by simp)
        omega
      · simp at hz; subst hz; omega
theorem free_add (A B : List S42) (x : S42) (hn : (A ++ B).length ≤ 1000000) (hv : Va (-1) (A ++ B)) (hr : Row x.f0 x.f1) (hA : ∀ y ∈ A, y.f0 + y.f1 ≤ x.f0) (hB : ∀ y ∈ B, x.f0 < y.f0 + y.f1) (hB0 : ∀ y ∈ B, x.f0 + x.f1 ≤ y.f0) :
    Et (fun k => extent_list_add.f k (A ++ B) [x]) (ins A x B) := by
  obtain ⟨r1, r2, r3⟩ := hr
  have hlenA : (A ++ B).length = A.length + B.length := by simp
  have fin : ∀ l, Et (fun k => extent_list_add.l0 k l [x] 1 1) l := by
    intro l
    refine Et.succ ?_
    simp only [extent_list_add.l0]
    exact Et.neg (by omega) (Et.ret _)
  have j2 : ∀ (A' : List S42) (x' : S42) (i : Int), i = (A'.length : Int) → A'.length ≤ A.length → x'.f0 + x'.f1 = x.f0 + x.f1 → 0 ≤ x'.f0 → 1 ≤ x'.f1 → Et (fun k => extent_list_add.j2 k (A' ++ B) i [x] 1 0 x'.f0 x'.f1) (A' ++ joinR x' B) := by
    intro A' x' i hi hl' he h0 h1'
    refine Et.succ ?_
    simp only [extent_list_add.j2, extent_end.f, Option.bind_some]
    have j3f : Et (fun k => extent_list_add.j3 k (A' ++ B) i [x] 1 0 false x'.f0 x'.f1) (A' ++ x' :: B) := by
      refine Et.succ ?_
      simp only [extent_list_add.j3]
      refine Et.neg (by simp) ?_
      rw [insert_mid A' B _ hi (by simp; omega)]
      simp only [Option.bind_some]
      rw [wr (x := 0 + 1) (by omega)]
      exact fin _
    cases B with
    | nil => exact Et.neg (by simp; omega) j3f
    | cons b B =>
      have hlen := len_mid A' b B
      have hb := hv.mem (x := b) (by simp)
      refine Et.pos (by omega) (Et.pos (by omega) ?_)
      rw [rd_mid A' b B hi, wr (x := x'.f0 + x'.f1) (by omega)]
      by_cases c : x'.f0 + x'.f1 = b.f0
      · simp only [joinR, c, if_true, BEq.rfl]
        refine Et.succ ?_
        simp only [extent_list_add.j3]
        refine Et.pos (by trivial) (Et.pos (by omega) (Et.pos (by omega) ?_))
        rw [delete_mid A' b B hi (wr (by simp at hn; omega)), rd_mid A' b B hi]
        simp only [Option.bind_some]
        rw [insert_mid A' B _ hi (by simp at *; omega), wr (x := x'.f1 + b.f1) (by omega)]
        simp only [Option.bind_some]
        rw [wr (x := 0 + 1) (by omega)]
        exact fin _
      · simp only [joinR, c, if_false]
        rw [beq_eq_false_iff_ne.mpr (fun h => c h.symm)]
        exact j3f
  unfold extent_list_add.f
  refine Et.succ ?_
  simp only [extent_list_add.l0]
  refine Et.pos (by simp) (Et.pos (by simp) (Et.pos (by simp) ?_))
  have e : rd_T42 [x] 0 = x := rfl
  rw [e]
  refine Et.bind (place A B x.f0 (by omega) hv hA hB) ?_
  rcases List.eq_nil_or_concat A with rfl | ⟨A', y, rfl⟩
  · refine Et.neg (by simp) (Et.succ ?_)
    simp only [extent_list_add.j1]
    refine Et.neg (by simp) ?_
    have := j2 [] x 0 rfl (by simp) rfl r2 r1
    simpa [ins, joinL] using this
  · simp only [List.concat_eq_append] at *
    have hl' : ((A' ++ [y]).length : Int) = (A'.length : Int) + 1 := by simp
    have hlen : ((A' ++ [y] ++ B).length : Int) = (A'.length : Int) + 1 + B.length := by simp; omega
    have hy := hv.mem (x := y) (by simp)
    refine Et.pos (by omega) ?_
    rw [wr (x := ((A' ++ [y]).length : Int) - 1) (by omega)]
    refine Et.pos (by omega) (Et.pos (by omega) ?_)
    have hcat : A' ++ [y] ++ B = A' ++ y :: B := by simp
    have hrd : rd_T42 (A' ++ [y] ++ B) (((A' ++ [y]).length : Int) - 1) = y := by rw [hcat]; exact rd_mid A' y B (by omega)
    rw [hrd]
    simp only [extent_end.f, Option.bind_some]
    rw [wr (x := y.f0 + y.f1) (by omega)]
    unfold ins
    rw [joinL_last]
    by_cases c : y.f0 + y.f1 = x.f0
    · simp only [c, if_true, BEq.rfl]
      refine Et.succ ?_
      simp only [extent_list_add.j1]
      rw [wr (x := ((A' ++ [y]).length : Int) - 1) (by omega)]
      refine Et.pos (by trivial) (Et.pos (by omega) (Et.pos (by omega) ?_))
      rw [hrd, hcat, delete_mid A' y B (by omega) (wr (by omega)), wr (x := y.f1 + x.f1) (by omega)]
      simp only [Option.bind_some]
      exact j2 A' ⟨y.f0, y.f1 + x.f1⟩ _ (by omega) (by simp) (by simp; omega) (by simp; omega) (by simp; omega)
    · simp only [c, if_false]
      rw [beq_eq_false_iff_ne.mpr c]
      refine Et.succ ?_
      simp only [extent_list_add.j1]
      refine Et.neg (by simp) ?_
      exact j2 (A' ++ [y]) x _ rfl (Nat.le_refl _) rfl r2 r1
theorem free_bad (l : List S42) (s n : Int) (hn : l.length ≤ 1000000) (hw : Wf l) (h : ¬ (Va (-1) l ∧ Row s n)) : Et (fun k => extent_Free.f k l s n) ([], 2) := by
  unfold extent_Free.f
  refine Et.bind (bad l s n (by omega) hw) ?_
  simp only [h, not_false_eq_true, decide_true, if_true]
  exact Et.ret _
theorem free_there (A : List S42) (b : S42) (B : List S42) (s n : Int) (hn : (A ++ b :: B).length ≤ 1000000) (hv : Va (-1) (A ++ b :: B)) (hr : Row s n) (hA : ∀ x ∈ A, x.f0 + x.f1 ≤ s) (hB : ∀ x ∈ b :: B, s < x.f0 + x.f1) (h : b.f0 < s + n) :
    Et (fun k => extent_Free.f k (A ++ b :: B) s n) ([], 7) := by
  have hlen := len_mid A b B
  obtain ⟨r1, r2, r3⟩ := id hr
  unfold extent_Free.f
  refine Et.bind (bad _ s n (by omega) (hv.wf (by omega))) ?_
  simp only [hv, hr, not_true_eq_false, and_self, decide_false]
  refine Et.neg (by simp) (Et.bind (place A (b :: B) s (by omega) hv hA hB) ?_)
  refine Et.pos (by omega) (Et.pos (by omega) ?_)
  rw [rd_mid A b B rfl, wr (x := s + n) (by omega), decide_eq_true h]
  refine Et.succ ?_
  simp only [extent_Free.j0, if_true]
  exact Et.ret _
theorem free_ok (A B : List S42) (s n : Int) (hn : (A ++ B).length ≤ 1000000) (hv : Va (-1) (A ++ B)) (hr : Row s n) (hA : ∀ x ∈ A, x.f0 + x.f1 ≤ s) (hB : ∀ x ∈ B, s < x.f0 + x.f1) (hB0 : ∀ y ∈ B, s + n ≤ y.f0) :
    Et (fun k => extent_Free.f k (A ++ B) s n) (ins A ⟨s, n⟩ B, 0) := by
  obtain ⟨r1, r2, r3⟩ := id hr
  unfold extent_Free.f
  refine Et.bind (bad _ s n (by omega) (hv.wf (by omega))) ?_
  simp only [hv, hr, not_true_eq_false, and_self, decide_false]
  refine Et.neg (by simp) (Et.bind (place A B s (by omega) hv hA hB) ?_)
  have j0 : Et (fun k => extent_Free.j0 k (A ++ B) s n false) (ins A ⟨s, n⟩ B, 0) := by
    refine Et.succ ?_
    simp only [extent_Free.j0]
    refine Et.neg (by simp) ?_
    rw [(clone_id _ (by omega)).2]
    simp only [Option.bind_some]
    exact Et.bind (free_add A B ⟨s, n⟩ hn hv hr hA hB hB0) (Et.ret _)
  cases B with
  | nil => exact Et.neg (by simp) j0
  | cons b B =>
    have hlen := len_mid A b B
    refine Et.pos (by omega) (Et.pos (by omega) ?_)
    have := hB0 b (by simp)
    rw [rd_mid A b B rfl, wr (x := s + n) (by omega), decide_eq_false (by omega)]
    exact j0

/-- no element of the part behind lies ahead of the row's end, if the first does not -/
theorem behind {A B : List S42} {s n : Int} (hv : Va (-1) (A ++ B)) (h : ∀ b B', B = b :: B' → s + n ≤ b.f0) : ∀ y ∈ B, s + n ≤ y.f0 := by
  intro y hy
  cases B with
  | nil => cases hy
  | cons b B =>
    have := h b B rfl
    obtain ⟨_, e', _, h3, _⟩ := hv.app
    rcases List.mem_cons.mp hy with rfl | hy
    · exact this
    · have := h3.2.2.2.mem hy
      have := h3.2.1
      omega
/-- WHAT INS TELLS: a valid list, with the row's sectors more. -/
theorem Va.weak {e e' : Int} {l : List S42} (h : Va e l) (h' : ∀ x ∈ l, e' < x.f0) : Va e' l := by
  cases l with
  | nil => trivial
  | cons x r => exact ⟨h' x (by simp), h.2⟩
theorem Va.join {e e' : Int} {A B : List S42} (hA : Va e A) (hB : Va e' B) (he : e ≤ e') (h : ∀ x ∈ A, x.f0 + x.f1 ≤ e') : Va e (A ++ B) := by
  induction A generalizing e with
  | nil => exact hB.weak fun x hx => by have := hB.mem hx; omega
  | cons x A ih => exact ⟨hA.1, hA.2.1, hA.2.2.1, ih hA.2.2.2 (h x (by simp)) fun y hy => h y (by simp [hy])⟩
theorem ins_facts {A B : List S42} {s n : Int} (hv : Va (-1) (A ++ B)) (hr : Row s n) (hA : ∀ x ∈ A, x.f0 + x.f1 ≤ s) (hB : ∀ x ∈ B, s < x.f0 + x.f1) (hB0 : ∀ y ∈ B, s + n ≤ y.f0) :
    Va (-1) (ins A ⟨s, n⟩ B) ∧ sum (ins A ⟨s, n⟩ B) = sum (A ++ B) + n ∧ (ins A ⟨s, n⟩ B).length ≤ (A ++ B).length + 1 ∧ ∀ i, Has (ins A ⟨s, n⟩ B) i ↔ (Has (A ++ B) i ∨ (s ≤ i ∧ i < s + n)) := by
  obtain ⟨r1, r2, r3⟩ := hr
  obtain ⟨hvA, e', h1, hvB, h2, _⟩ := hv.app
  obtain ⟨f1, f2, f3, f4, f5, f6, f7, f8, f9⟩ := joinL_facts (x := ⟨s, n⟩) hvA r1 hA
  unfold ins
  generalize joinL A ⟨s, n⟩ = q at *
  obtain ⟨A', x⟩ := q
  simp only at *
  have f6' := f6 r2
  have hasA : ∀ (l l' : List S42) i, Has (l ++ l') i ↔ (Has l i ∨ Has l' i) := by
    intro l l' i
    constructor
    · rintro ⟨x, hx, h⟩
      rcases List.mem_append.mp hx with hx | hx
      · exact Or.inl ⟨x, hx, h⟩
      · exact Or.inr ⟨x, hx, h⟩
    · rintro (⟨x, hx, h⟩ | ⟨x, hx, h⟩)
      · exact ⟨x, by simp [hx], h⟩
      · exact ⟨x, by simp [hx], h⟩
  have hasC : ∀ (y : S42) (l' : List S42) i, Has (y :: l') i ↔ ((y.f0 ≤ i ∧ i < y.f0 + y.f1) ∨ Has l' i) := by
    intro y l' i
    rw [show y :: l' = [y] ++ l' from rfl, hasA]
    simp [Has]
  cases B with
  | nil =>
    simp only [joinR, List.append_nil]
    refine ⟨?_, ?_, by simp; omega, fun i => ?_⟩
    · have hx1 : Va (x.f0 - 1) [x] := ⟨by omega, by omega, by omega, trivial⟩
      exact f5.join hx1 (by omega) (fun y hy => by have := f4 y hy; omega)
    · rw [sum_app]; simp [sum]; omega
    · rw [hasA, hasC, ← f9 i]
      simp [Has]
  | cons b B =>
    obtain ⟨g1, g2, g3, g4⟩ := hvB
    have g5 := hB0 b (by simp)
    by_cases c : x.f0 + x.f1 = b.f0
    · simp only [joinR, c, if_true]
      refine ⟨?_, ?_, by simp; omega, fun i => ?_⟩
      · have hx1 : Va (x.f0 - 1) (⟨x.f0, x.f1 + b.f1⟩ :: B) := ⟨by simp only; omega, by simp only; omega, by simp only; omega, by simp only [← Int.add_assoc, c]; exact g4⟩
        exact f5.join hx1 (by omega) (fun y hy => by have := f4 y hy; omega)
      · rw [sum_app, sum_app]; simp only [sum]; omega
      · rw [hasA, hasC, hasA, hasC]
        have := f9 i
        constructor
        · rintro (h | h | h)
          · rcases this.mp (Or.inl h) with h | h
            · exact Or.inl (Or.inl h)
            · exact Or.inr (by omega)
          · by_cases hi : i < b.f0
            · rcases this.mp (Or.inr (by simp only at h; omega)) with h | h
              · exact Or.inl (Or.inl h)
              · exact Or.inr (by omega)
            · exact Or.inl (Or.inr (Or.inl (by simp only at h; omega)))
          · exact Or.inl (Or.inr (Or.inr h))
        · rintro ((h | h | h) | h)
          · rcases this.mpr (Or.inl h) with h | h
            · exact Or.inl h
            · exact Or.inr (Or.inl (by simp only; omega))
          · exact Or.inr (Or.inl (by simp only; omega))
          · exact Or.inr (Or.inr h)
          · rcases this.mpr (Or.inr (by omega)) with h | h
            · exact Or.inl h
            · exact Or.inr (Or.inl (by simp only; omega))
    · simp only [joinR, c, if_false]
      refine ⟨?_, ?_, by simp; omega, fun i => ?_⟩
      · have hx1 : Va (x.f0 - 1) (x :: b :: B) := ⟨by omega, by omega, by omega, by omega, g2, g3, g4⟩
        exact f5.join hx1 (by omega) (fun y hy => by have := f4 y hy; omega)
      · rw [sum_app, sum_app]; simp only [sum]; omega
      · rw [hasA, hasC, hasA]
        have := f9 i
        constructor
        · rintro (h | h | h)
          · rcases this.mp (Or.inl h) with h | h
            · exact Or.inl (Or.inl h)
            · exact Or.inr (by omega)
          · rcases this.mp (Or.inr (by omega)) with h | h
            · exact Or.inl (Or.inl h)
            · exact Or.inr (by omega)
          · exact Or.inl (Or.inr h)
        · rintro ((h | h) | h)
          · rcases this.mpr (Or.inl h) with h | h
            · exact Or.inl h
            · exact Or.inr (Or.inl h)
          · exact Or.inr (Or.inr h)
          · rcases this.mpr (Or.inr (by omega)) with h | h
            · exact Or.inl h
            · exact Or.inr (Or.inl h)
end Go.Proofs.Ytobleaodacnpiaa.Th
