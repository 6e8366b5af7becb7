import Derived.Test.YtobleaodacnpiaaTh3
namespace Go.Proofs.Ytobleaodacnpiaa.Th
open Go.RowKit Go.Proofs.Ytobleaodacnpiaa.XE Go.Proofs.YtobleaodacnpiaaW.PrintWords Go.Proofs.YtobleaodacnpiaaW.PrintLast Go.Proofs.YtobleaodacnpiaaXe
set_option linter.unusedVariables false

theorem Has.ge {e : Int} {l : List S42} (hv : Va e l) {s : Int} (h : Has l s) : e < s := by
  obtain ⟨x, hx, h1, h2⟩ := h
  have := hv.mem hx
  omega
theorem Has.cons {x : S42} {l : List S42} {s : Int} : Has (x :: l) s ↔ ((x.f0 ≤ s ∧ s < x.f0 + x.f1) ∨ Has l s) := by
  simp [Has]
/-- A VALID LIST IS KNOWN BY ITS SECTORS. -/
theorem uniq {e : Int} {l l' : List S42} (h : Va e l) (h' : Va e l') (hs : ∀ s, Has l s ↔ Has l' s) : l = l' := by
  induction l generalizing e l' with
  | nil =>
    cases l' with
    | nil => rfl
    | cons y r =>
      have := (hs y.f0).mpr (Has.cons.mpr (Or.inl ⟨Int.le_refl _, by have := h'.2.1; omega⟩))
      obtain ⟨_, hx, _⟩ := this
      cases hx
  | cons x r ih =>
    cases l' with
    | nil =>
      have := (hs x.f0).mp (Has.cons.mpr (Or.inl ⟨Int.le_refl _, by have := h.2.1; omega⟩))
      obtain ⟨_, hx, _⟩ := this
      cases hx
    | cons y r' =>
      obtain ⟨h1, h2, h3, h4⟩ := h
      obtain ⟨k1, k2, k3, k4⟩ := h'
      have e0 : x.f0 = y.f0 := by
        have a := (hs x.f0).mp (Has.cons.mpr (Or.inl ⟨Int.le_refl _, by omega⟩))
        have b := (hs y.f0).mpr (Has.cons.mpr (Or.inl ⟨Int.le_refl _, by omega⟩))
        have a' : y.f0 ≤ x.f0 := by
          rcases Has.cons.mp a with h | h
          · exact h.1
          · have := Has.ge k4 h; omega
        have b' : x.f0 ≤ y.f0 := by
          rcases Has.cons.mp b with h | h
          · exact h.1
          · have := Has.ge h4 h; omega
        omega
      have e1 : x.f1 = y.f1 := by
        have a : ¬ x.f0 + x.f1 < y.f0 + y.f1 := by
          intro c
          rcases Has.cons.mp ((hs (x.f0 + x.f1)).mpr (Has.cons.mpr (Or.inl ⟨by omega, c⟩))) with h | h
          · omega
          · have := Has.ge h4 h; omega
        have b : ¬ y.f0 + y.f1 < x.f0 + x.f1 := by
          intro c
          rcases Has.cons.mp ((hs (y.f0 + y.f1)).mp (Has.cons.mpr (Or.inl ⟨by omega, c⟩))) with h | h
          · omega
          · have := Has.ge k4 h; omega
        omega
      have exy : x = y := by cases x; cases y; simp at e0 e1; rw [e0, e1]
      subst exy
      rw [ih h4 k4 fun s => ?_]
      constructor
      · intro h
        have := Has.ge h4 h
        rcases Has.cons.mp ((hs s).mp (Has.cons.mpr (Or.inr h))) with h' | h'
        · omega
        · exact h'
      · intro h
        have := Has.ge k4 h
        rcases Has.cons.mp ((hs s).mpr (Has.cons.mpr (Or.inr h))) with h' | h'
        · omega
        · exact h'
/-- FREEING ONE SECTOR that is not free, and one that is. -/
theorem free1 {l : List S42} {s : Int} (hn : l.length ≤ 100000) (hv : Va (-1) l) (h0 : 0 ≤ s) (h1 : s < 65536) (h : ¬ Has l s) :
    ∃ l', Et (fun k => extent_Free.f k l s 1) (l', 0) ∧ Va (-1) l' ∧ sum l' = sum l + 1 ∧ l'.length ≤ l.length + 1 ∧ ∀ i, Has l' i ↔ (Has l i ∨ i = s) := by
  obtain ⟨A, B, rfl, hA, hB⟩ := hv.parts s
  have hp := Has.parts hv hA hB
  have hr : Row s 1 := ⟨by omega, h0, by omega⟩
  have hb := behind (s := s) (n := 1) hv (fun b B' hb => by have : ¬ b.f0 ≤ s := fun h' => h (hp.mpr ⟨b, B', hb, h'⟩); omega)
  obtain ⟨f1, f2, f3, f4⟩ := ins_facts hv hr hA hB hb
  refine ⟨_, free_ok A B s 1 (by omega) hv hr hA hB hb, f1, f2, f3, fun i => ?_⟩
  rw [f4]
  constructor
  · rintro (h | h)
    · exact Or.inl h
    · exact Or.inr (by omega)
  · rintro (h | h)
    · exact Or.inl h
    · exact Or.inr (by omega)
theorem free1_there {l : List S42} {s : Int} (hn : l.length ≤ 100000) (hv : Va (-1) l) (h0 : 0 ≤ s) (h1 : s < 65536) (h : Has l s) : Et (fun k => extent_Free.f k l s 1) ([], 7) := by
  obtain ⟨A, B, rfl, hA, hB⟩ := hv.parts s
  obtain ⟨b, B', rfl, hb⟩ := (Has.parts hv hA hB).mp h
  exact free_there A b B' s 1 (by omega) hv ⟨by omega, h0, by omega⟩ hA hB (by omega)
end Go.Proofs.Ytobleaodacnpiaa.Th
