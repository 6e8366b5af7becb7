import Derived.Test.YtobleaodacnpiaaTh3
import Derived.Test.YtobleaodacnpiaaXEgrcheck
namespace Go.Proofs.Ytobleaodacnpiaa.Th
open Go.RowKit Go.Proofs.Ytobleaodacnpiaa.XE Go.Proofs.YtobleaodacnpiaaW.PrintWords Go.Proofs.YtobleaodacnpiaaW.PrintLast Go.Proofs.YtobleaodacnpiaaXe
set_option linter.unusedVariables false

/-! ### the document's Check, Total, Has -/
theorem rcheck_l (B : List S42) : ∀ (A : List S42) (l : List S42) (e : Int) (i : Int), l = A ++ B → i = (A.length : Int) → l.length ≤ 100000000 → -1 ≤ e → Wf B →
    Et (fun k => retconref14_Check.l0 k l e i) (if Va e B then 0 else 2) := by
  induction B with
  | nil =>
    intro A l e i hl hi hb he hw
    refine Et.succ ?_
    simp only [retconref14_Check.l0]
    simp at hl
    subst hl
    refine Et.neg (by omega) ?_
    simpa [Va] using Et.ret (0 : Int)
  | cons x B ih =>
    intro A l e i hl hi hb he hw
    have hlen := len_mid A x B
    rw [← hl] at hlen
    have hx := hw x (by simp)
    refine Et.succ ?_
    simp only [retconref14_Check.l0]
    refine Et.pos (by omega) (Et.pos (by omega) ?_)
    rw [hl, rd_mid A x B hi, ← hl]
    have bad : ¬ Va e (x :: B) → Et (fun k => retconref14_Check.j1 k l i true) (if Va e (x :: B) then 0 else 2) := by
      intro hv
      refine Et.succ ?_
      simp only [retconref14_Check.j1, if_true, hv, if_false]
      exact Et.ret 2
    refine Et.ite (fun c => bad (fun h => by have := h.2.1; omega)) fun c1 => ?_
    refine Et.ite (fun c => bad (fun h => by have := h.1; have := h.2.2.1; omega)) fun c2 => ?_
    refine Et.ite (fun c => bad (fun h => by have := h.1; omega)) fun c3 => ?_
    rw [wr (x := 65536 - x.f1) (by omega)]
    by_cases c5 : x.f0 > 65536 - x.f1
    · simp only [c5, decide_true]
      exact bad (fun h => by have := h.2.2.1; omega)
    · simp only [c5, decide_false]
      refine Et.succ ?_
      simp only [retconref14_Check.j1]
      refine Et.neg (by simp) (Et.pos (by omega) (Et.pos (by omega) ?_))
      rw [hl, rd_mid A x B hi, ← hl]
      rw [wr (x := x.f0 + x.f1) (by omega), wr (x := i + 1) (by omega)]
      have := ih (A ++ [x]) l (x.f0 + x.f1) (i + 1) (by simp [hl]) (by simp; omega) hb (by omega) (fun y hy => hw y (by simp [hy]))
      have hv : Va e (x :: B) ↔ Va (x.f0 + x.f1) B := ⟨fun h => h.2.2.2, fun h => ⟨by omega, by omega, by omega, h⟩⟩
      simpa only [hv] using this
theorem rcheck (l : List S42) (hn : l.length ≤ 100000000) (hw : Wf l) : Et (fun k => retconref14_Check.f k l) (if Va (-1) l then 0 else 2) := by
  unfold retconref14_Check.f
  exact rcheck_l l [] l (-1) 0 rfl rfl hn (by omega) hw

theorem rtotal_l (B : List S42) : ∀ (A l : List S42) (s i : Int), l = A ++ B → i = (A.length : Int) → l.length ≤ 100000000 → Va (-1) l → (∃ e, -1 ≤ e ∧ e ≤ 65536 ∧ Va e B ∧ 0 ≤ s ∧ s ≤ e + 1) →
    Et (fun k => retconref14_Total.l0 k l s i) (s + sum B) := by
  induction B with
  | nil =>
    intro A l s i hl hi hb hv _
    simp at hl
    subst hl
    refine Et.succ ?_
    simp only [retconref14_Total.l0]
    refine Et.neg (by omega) (Et.succ ?_)
    simp only [retconref14_Total.j1]
    refine Et.neg (by simp) ?_
    simpa [sum] using Et.ret s
  | cons x B ih =>
    intro A l s i hl hi hb hvl ⟨e, he0, he1, hv, hs0, hs1⟩
    have hlen := len_mid A x B
    rw [← hl] at hlen
    refine Et.succ ?_
    simp only [retconref14_Total.l0]
    refine Et.pos (by omega) (Et.bind (rcheck l hb (hvl.wf (by omega))) (Et.succ ?_))
    simp only [retconref14_Total.j1]
    refine Et.pos (by simp [hvl]) (Et.pos (by omega) (Et.pos (by omega) ?_))
    rw [hl, rd_mid A x B hi, ← hl]
    obtain ⟨h1, h2, h3, h4⟩ := hv
    rw [wr (x := s + x.f1) (by omega), wr (x := i + 1) (by omega)]
    have := ih (A ++ [x]) l (s + x.f1) (i + 1) (by simp [hl]) (by simp; omega) hb hvl ⟨x.f0 + x.f1, by omega, h3, h4, by omega, by omega⟩
    simp only [sum]
    rwa [Int.add_assoc] at this
theorem rtotal (l : List S42) (hn : l.length ≤ 100000000) (hw : Wf l) : Et (fun k => retconref14_Total.f k l) (if Va (-1) l then sum l else 0) := by
  unfold retconref14_Total.f
  by_cases hv : Va (-1) l
  · simp only [hv, if_true]
    have := rtotal_l l [] l 0 0 rfl rfl hn hv ⟨-1, by omega, by omega, hv, by omega, by omega⟩
    simpa using this
  · simp only [hv, if_false]
    refine Et.succ ?_
    simp only [retconref14_Total.l0]
    refine Et.ite (fun c => Et.bind (rcheck l hn hw) (Et.succ ?_)) (fun c => Et.succ ?_)
    · simp only [retconref14_Total.j1, hv, if_false]
      exact Et.neg (by decide) (Et.ret 0)
    · simp only [retconref14_Total.j1]
      exact Et.neg (by simp) (Et.ret 0)

theorem rhas_l (s : Int) (hs : -9223372036854775808 ≤ s ∧ s ≤ 9223372036854775807) (B : List S42) : ∀ (A l : List S42) (i : Int), l = A ++ B → i = (A.length : Int) → l.length ≤ 100000000 → Wf l → (Va (-1) l → ¬ Has A s) →
    Et (fun k => retconref14_Has.l0 k l s i) (decide (Va (-1) l ∧ Has l s)) := by
  induction B with
  | nil =>
    intro A l i hl hi hb hw hA
    simp at hl
    subst hl
    refine Et.succ ?_
    simp only [retconref14_Has.l0]
    exact Et.neg (by omega) (Et.ret' (decide_eq_false (fun h => hA h.1 h.2)).symm)
  | cons x B ih =>
    intro A l i hl hi hb hw hA
    have hlen := len_mid A x B
    rw [← hl] at hlen
    have hx := hw x (by simp [hl])
    refine Et.succ ?_
    simp only [retconref14_Has.l0]
    refine Et.pos (by omega) (Et.pos (by omega) ?_)
    rw [hl, rd_mid A x B hi, ← hl]
    have yes : Et (fun k => retconref14_Has.j1 k l s i true) (decide (Va (-1) l)) := by
      refine Et.succ ?_
      simp only [retconref14_Has.j1]
      refine Et.pos (by trivial) (Et.bind (rcheck l hb hw) (Et.ret' ?_))
      by_cases hv : Va (-1) l
      · simp [hv]
      · simp [hv]
    have no : (Va (-1) l → ¬ (x.f0 ≤ s ∧ s < x.f0 + x.f1)) → Et (fun k => retconref14_Has.j1 k l s i false) (decide (Va (-1) l ∧ Has l s)) := by
      intro h
      refine Et.succ ?_
      simp only [retconref14_Has.j1]
      refine Et.neg (by simp) ?_
      rw [wr (x := i + 1) (by omega)]
      refine ih (A ++ [x]) l (i + 1) (by simp [hl]) (by simp; omega) hb hw fun hv => ?_
      rintro ⟨y, hy, h'⟩
      rcases List.mem_append.mp hy with hy | hy
      · exact hA hv ⟨y, hy, h'⟩
      · simp at hy; subst hy; exact h hv h'
    refine Et.ite (fun c => ?_) (fun c => no fun _ h => c h.1)
    by_cases hd : wrap64 (s - x.f0) < x.f1
    · rw [decide_eq_true hd]
      by_cases hv : Va (-1) l
      · have hm := hv.mem (x := x) (by simp [hl])
        rw [wr (x := s - x.f0) (by omega)] at hd
        have hh : Has l s := ⟨x, by simp [hl], c, by omega⟩
        simpa [hv, hh] using yes
      · simpa [hv] using yes
    · rw [decide_eq_false hd]
      refine no fun hv h => hd ?_
      have hm := hv.mem (x := x) (by simp [hl])
      rw [wr (x := s - x.f0) (by omega)]
      omega
theorem rhas (l : List S42) (s : Int) (hs : -9223372036854775808 ≤ s ∧ s ≤ 9223372036854775807) (hn : l.length ≤ 100000000) (hw : Wf l) : Et (fun k => retconref14_Has.f k l s) (decide (Va (-1) l ∧ Has l s)) := by
  unfold retconref14_Has.f
  exact rhas_l s hs l [] l 0 rfl rfl hn hw (fun _ ⟨_, h, _⟩ => by cases h)
end Go.Proofs.Ytobleaodacnpiaa.Th
