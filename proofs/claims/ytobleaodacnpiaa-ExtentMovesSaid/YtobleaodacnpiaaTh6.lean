import Derived.Test.YtobleaodacnpiaaTh4
import Derived.Test.YtobleaodacnpiaaXEgrcut
import Derived.Test.YtobleaodacnpiaaXEfretconref14Free
namespace Go.Proofs.Ytobleaodacnpiaa.Th
open Go.RowKit Go.Proofs.Ytobleaodacnpiaa.XE Go.Proofs.YtobleaodacnpiaaW.PrintWords Go.Proofs.YtobleaodacnpiaaW.PrintLast Go.Proofs.YtobleaodacnpiaaXe
set_option linter.unusedVariables false

/-! ### the document's cut, Alloc, Take -/
theorem rcut_kept (s n : Int) (v : List S42) (M : List S42) : ∀ (A R l out : List S42) (i : Int), l = A ++ (M ++ R) → i = (A.length : Int) → l.length ≤ 1000000 → Va (-1) l → (∀ y ∈ M, s < y.f0 ∨ y.f0 + y.f1 ≤ s) → out.length + M.length ≤ 10000000 →
    Et (fun k => retconref14_cut.l0 k l s n (out ++ M) ((A ++ M).length : Int)) v → Et (fun k => retconref14_cut.l0 k l s n out i) v := by
  induction M with
  | nil =>
    intro A R l out i hl hi hb hv hM ho h
    simpa [hi] using h
  | cons y M ih =>
    intro A R l out i hl hi hb hv hM ho h
    have hlen := len_mid A y (M ++ R)
    rw [show A ++ y :: (M ++ R) = l by rw [hl]; rfl] at hlen
    have hy := hv.mem (x := y) (by simp [hl])
    refine Et.succ ?_
    simp only [retconref14_cut.l0]
    refine Et.pos (by omega) (Et.pos (by omega) ?_)
    have hrd : rd_T42 l i = y := by rw [hl]; exact rd_mid A y (M ++ R) hi
    rw [hrd]
    have yes : Et (fun k => retconref14_cut.j1 k l s n out i true y.f0 y.f1) v := by
      refine Et.succ ?_
      simp only [retconref14_cut.j1]
      simp only [List.length_cons] at ho
      refine Et.pos (by trivial) (Et.pos (by omega) ?_)
      rw [wr (x := i + 1) (by omega)]
      refine ih (A ++ [y]) R l (out ++ [y]) (i + 1) (by simp [hl]) (by simp; omega) hb hv (fun z hz => hM z (by simp [hz])) (by simp; omega) ?_
      simpa using h
    refine Et.ite (fun _ => yes) fun c => ?_
    rw [wr (x := y.f0 + y.f1) (by omega), decide_eq_true (by have := hM y (by simp); omega)]
    exact yes
theorem rcut (A : List S42) (x : S42) (B : List S42) (s n : Int) (hn : (A ++ x :: B).length ≤ 1000000) (hv : Va (-1) (A ++ x :: B)) (h2 : x.f0 ≤ s) (h3 : 1 ≤ n) (h4 : s + n ≤ x.f0 + x.f1) :
    Et (fun k => retconref14_cut.f k (A ++ x :: B) s n) (A ++ parts x s n ++ B) := by
  unfold retconref14_cut.f
  have hlen := len_mid A x B
  have hx := hv.mem (x := x) (by simp)
  obtain ⟨_, e', e1, hvB, e2, _⟩ := hv.app
  obtain ⟨g1, g2, g3, g4⟩ := hvB
  refine rcut_kept s n _ A [] (x :: B) _ [] 0 rfl rfl hn hv (fun y hy => Or.inr (by have := e2 y hy; omega)) (by simp; omega) ?_
  simp only [List.nil_append]
  refine Et.succ ?_
  simp only [retconref14_cut.l0]
  refine Et.pos (by omega) (Et.pos (by omega) ?_)
  rw [rd_mid A x B rfl]
  refine Et.neg (by omega) ?_
  rw [wr (x := x.f0 + x.f1) (by omega), decide_eq_false (by omega)]
  refine Et.succ ?_
  simp only [retconref14_cut.j1]
  refine Et.neg (by simp) ?_
  have tail : ∀ out : List S42, out.length ≤ 1000010 → Et (fun k => retconref14_cut.l0 k (A ++ x :: B) s n out ((A.length : Int) + 1)) (out ++ B) := by
    intro out ho
    refine rcut_kept s n _ B (A ++ [x]) [] _ out _ (by simp) (by simp) hn hv (fun y hy => Or.inl (by have := g4.mem hy; omega)) (by omega) ?_
    refine Et.succ ?_
    simp only [retconref14_cut.l0]
    refine Et.neg (by simp) (Et.ret _)
  have j2 : ∀ out : List S42, out.length ≤ 1000005 → Et (fun k => retconref14_cut.j2 k (A ++ x :: B) s n out (A.length : Int) x.f0 x.f1) (out ++ ((if s + n < x.f0 + x.f1 then [⟨s + n, x.f0 + x.f1 - s - n⟩] else []) ++ B)) := by
    intro out ho
    refine Et.succ ?_
    simp only [retconref14_cut.j2]
    rw [wr (x := s + n) (by omega), wr (x := x.f0 + x.f1) (by omega), wr (x := x.f0 + x.f1 - s) (by omega), wr (x := x.f0 + x.f1 - s - n) (by omega), wr (x := (A.length : Int) + 1) (by omega)]
    by_cases c : s + n < x.f0 + x.f1
    · simp only [c, if_true]
      refine Et.pos (by omega) ?_
      have := tail (out ++ [⟨s + n, x.f0 + x.f1 - s - n⟩]) (by simp; omega)
      simpa using this
    · simp only [c, if_false]
      exact tail out (by omega)
  unfold parts
  rw [wr (x := s - x.f0) (by omega)]
  by_cases c : s > x.f0
  · simp only [c, if_true]
    refine Et.pos (by omega) ?_
    have := j2 (A ++ [⟨x.f0, s - x.f0⟩]) (by simp; omega)
    simpa using this
  · simp only [c, if_false]
    have := j2 A (by omega)
    simpa using this
theorem ralloc_bad (l : List S42) (n : Int) (hn : l.length ≤ 1000000) (hw : Wf l) (h : ¬ (Va (-1) l ∧ 1 ≤ n)) : Et (fun k => retconref14_Alloc.f k l n) (0, [], 2) := by
  unfold retconref14_Alloc.f
  have yes : Et (fun k => retconref14_Alloc.j0 k l n true) (0, [], 2) := by
    refine Et.succ ?_
    simp only [retconref14_Alloc.j0, if_true]
    exact Et.ret _
  refine Et.bind (rcheck l (by omega) hw) ?_
  by_cases hv : Va (-1) l
  · simp only [hv, if_true]
    rw [decide_eq_true (by have : ¬ 1 ≤ n := fun h' => h ⟨hv, h'⟩; omega)]
    exact yes
  · simp only [hv, if_false]
    exact Et.neg (by omega) yes
theorem ralloc_l (n : Int) (v : Int × List S42 × Int) (M : List S42) : ∀ (A R l : List S42) (i : Int), l = A ++ (M ++ R) → i = (A.length : Int) → l.length ≤ 1000000 → (∀ y ∈ M, y.f1 < n) →
    Et (fun k => retconref14_Alloc.l0 k l n ((A ++ M).length : Int)) v → Et (fun k => retconref14_Alloc.l0 k l n i) v := by
  induction M with
  | nil =>
    intro A R l i hl hi hb hM h
    simpa [hi] using h
  | cons y M ih =>
    intro A R l i hl hi hb hM h
    have hlen := len_mid A y (M ++ R)
    rw [show A ++ y :: (M ++ R) = l by rw [hl]; rfl] at hlen
    refine Et.succ ?_
    simp only [retconref14_Alloc.l0]
    refine Et.pos (by omega) (Et.pos (by omega) ?_)
    have hrd : rd_T42 l i = y := by rw [hl]; exact rd_mid A y (M ++ R) hi
    rw [hrd]
    have := hM y (by simp)
    refine Et.neg (by omega) ?_
    rw [wr (x := i + 1) (by omega)]
    refine ih (A ++ [y]) R l (i + 1) (by simp [hl]) (by simp; omega) hb (fun z hz => hM z (by simp [hz])) ?_
    simpa using h
theorem ralloc_start (l : List S42) (n : Int) (v : Int × List S42 × Int) (hn : l.length ≤ 1000000) (hv : Va (-1) l) (h1 : 1 ≤ n) (h : Et (fun k => retconref14_Alloc.l0 k l n 0) v) : Et (fun k => retconref14_Alloc.f k l n) v := by
  unfold retconref14_Alloc.f
  refine Et.bind (rcheck l (by omega) (hv.wf (by omega))) ?_
  simp only [hv, if_true]
  rw [decide_eq_false (by omega)]
  refine Et.succ ?_
  simp only [retconref14_Alloc.j0]
  exact Et.neg (by simp) h
theorem ralloc_full (l : List S42) (n : Int) (hn : l.length ≤ 1000000) (hv : Va (-1) l) (h1 : 1 ≤ n) (h : ∀ y ∈ l, y.f1 < n) : Et (fun k => retconref14_Alloc.f k l n) (0, [], 8) := by
  refine ralloc_start l n _ hn hv h1 (ralloc_l n _ l [] [] l 0 (by simp) rfl hn h ?_)
  refine Et.succ ?_
  simp only [retconref14_Alloc.l0]
  exact Et.neg (by simp) (Et.ret _)
theorem ralloc_ok (A : List S42) (x : S42) (B : List S42) (n : Int) (hn : (A ++ x :: B).length ≤ 1000000) (hv : Va (-1) (A ++ x :: B)) (h1 : 1 ≤ n) (h : ∀ y ∈ A, y.f1 < n) (hx : n ≤ x.f1) :
    Et (fun k => retconref14_Alloc.f k (A ++ x :: B) n) (x.f0, A ++ parts x x.f0 n ++ B, 0) := by
  have hlen := len_mid A x B
  refine ralloc_start _ n _ hn hv h1 (ralloc_l n _ A [] (x :: B) _ 0 rfl rfl hn h ?_)
  refine Et.succ ?_
  simp only [retconref14_Alloc.l0, List.nil_append]
  refine Et.pos (by omega) (Et.pos (by omega) ?_)
  rw [rd_mid A x B rfl]
  exact Et.pos hx (Et.bind (rcut A x B x.f0 n hn hv (Int.le_refl _) h1 (by omega)) (Et.ret _))

theorem row (s n : Int) : retconref14_row.f s n = some (decide (Row s n)) := by
  unfold retconref14_row.f
  split
  · split
    · split
      · rw [wr (by omega)]; refine congrArg some (decide_eq_decide.mpr ?_); unfold Row; omega
      · refine congrArg some ?_; symm; apply decide_eq_false; unfold Row; omega
    · refine congrArg some ?_; symm; apply decide_eq_false; unfold Row; omega
  · refine congrArg some ?_; symm; apply decide_eq_false; unfold Row; omega
theorem rtake_bad (l : List S42) (s n : Int) (hn : l.length ≤ 1000000) (hw : Wf l) (h : ¬ (Va (-1) l ∧ Row s n)) : Et (fun k => retconref14_Take.f k l s n) ([], 2) := by
  unfold retconref14_Take.f
  have yes : Et (fun k => retconref14_Take.j0 k l s n true) ([], 2) := by
    refine Et.succ ?_
    simp only [retconref14_Take.j0, if_true]
    exact Et.ret _
  refine Et.bind (rcheck l (by omega) hw) ?_
  by_cases hv : Va (-1) l
  · simp only [hv, if_true, row, Option.bind_some]
    rw [decide_eq_false (fun h' => h ⟨hv, h'⟩)]
    exact yes
  · simp only [hv, if_false]
    exact Et.neg (by omega) yes
theorem rtake_start (l : List S42) (s n : Int) (v : List S42 × Int) (hn : l.length ≤ 1000000) (hv : Va (-1) l) (h1 : Row s n) (h : Et (fun k => retconref14_Take.l0 k l s n 0) v) : Et (fun k => retconref14_Take.f k l s n) v := by
  unfold retconref14_Take.f
  refine Et.bind (rcheck l (by omega) (hv.wf (by omega))) ?_
  simp only [hv, if_true, row, Option.bind_some]
  rw [decide_eq_true h1]
  refine Et.succ ?_
  simp only [retconref14_Take.j0]
  exact Et.neg (by simp) h
theorem rtake_l (s n : Int) (v : List S42 × Int) (hr : Row s n) (M : List S42) : ∀ (A R l : List S42) (i : Int), l = A ++ (M ++ R) → i = (A.length : Int) → l.length ≤ 1000000 → Va (-1) l → (∀ y ∈ M, ¬ (y.f0 ≤ s ∧ s + n ≤ y.f0 + y.f1)) →
    Et (fun k => retconref14_Take.l0 k l s n ((A ++ M).length : Int)) v → Et (fun k => retconref14_Take.l0 k l s n i) v := by
  induction M with
  | nil =>
    intro A R l i hl hi hb hv hM h
    simpa [hi] using h
  | cons y M ih =>
    intro A R l i hl hi hb hv hM h
    have hlen := len_mid A y (M ++ R)
    rw [show A ++ y :: (M ++ R) = l by rw [hl]; rfl] at hlen
    have hy := hv.mem (x := y) (by simp [hl])
    obtain ⟨r1, r2, r3⟩ := id hr
    refine Et.succ ?_
    simp only [retconref14_Take.l0]
    refine Et.pos (by omega) (Et.pos (by omega) ?_)
    have hrd : rd_T42 l i = y := by rw [hl]; exact rd_mid A y (M ++ R) hi
    rw [hrd]
    have no : Et (fun k => retconref14_Take.j2 k l s n i false) v := by
      refine Et.succ ?_
      simp only [retconref14_Take.j2]
      refine Et.neg (by simp) ?_
      rw [wr (x := i + 1) (by omega)]
      refine ih (A ++ [y]) R l (i + 1) (by simp [hl]) (by simp; omega) hb hv (fun z hz => hM z (by simp [hz])) ?_
      simpa using h
    have := hM y (by simp)
    refine Et.ite (fun c => ?_) (fun c => no)
    rw [wr (x := s + n) (by omega), wr (x := y.f0 + y.f1) (by omega), decide_eq_false (by omega)]
    exact no
theorem rtake_there (l : List S42) (s n : Int) (hn : l.length ≤ 1000000) (hv : Va (-1) l) (hr : Row s n) (h : ∀ y ∈ l, ¬ (y.f0 ≤ s ∧ s + n ≤ y.f0 + y.f1)) : Et (fun k => retconref14_Take.f k l s n) ([], 7) := by
  refine rtake_start l s n _ hn hv hr (rtake_l s n _ hr l [] [] l 0 (by simp) rfl hn hv h ?_)
  refine Et.succ ?_
  simp only [retconref14_Take.l0]
  exact Et.neg (by simp) (Et.ret _)
theorem rtake_ok (A : List S42) (x : S42) (B : List S42) (s n : Int) (hn : (A ++ x :: B).length ≤ 1000000) (hv : Va (-1) (A ++ x :: B)) (hr : Row s n) (hA : ∀ y ∈ A, y.f0 + y.f1 ≤ s)
    (h0 : x.f0 ≤ s) (h1 : s + n ≤ x.f0 + x.f1) : Et (fun k => retconref14_Take.f k (A ++ x :: B) s n) (A ++ parts x s n ++ B, 0) := by
  have hlen := len_mid A x B
  have hx := hv.mem (x := x) (by simp)
  obtain ⟨r1, r2, r3⟩ := id hr
  refine rtake_start _ s n _ hn hv hr (rtake_l s n _ hr A [] (x :: B) _ 0 rfl rfl hn hv (fun y hy => by have := hA y hy; omega) ?_)
  simp only [List.nil_append]
  refine Et.succ ?_
  simp only [retconref14_Take.l0]
  refine Et.pos (by omega) (Et.pos (by omega) ?_)
  rw [rd_mid A x B rfl, wr (x := s + n) (by omega), wr (x := x.f0 + x.f1) (by omega)]
  refine Et.pos h0 ?_
  rw [decide_eq_true h1]
  refine Et.succ ?_
  simp only [retconref14_Take.j2]
  exact Et.pos (by trivial) (Et.bind (rcut A x B s n hn hv h0 r1 h1) (Et.ret _))

/-! ### the document's Free -/
theorem rfree_bad (l : List S42) (s n : Int) (hn : l.length ≤ 1000000) (hw : Wf l) (h : ¬ (Va (-1) l ∧ Row s n)) : Et (fun k => retconref14_Free.f k l s n) ([], 2) := by
  unfold retconref14_Free.f
  have yes : Et (fun k => retconref14_Free.j0 k l s n true) ([], 2) := by
    refine Et.succ ?_
    simp only [retconref14_Free.j0, if_true]
    exact Et.ret _
  refine Et.bind (rcheck l (by omega) hw) ?_
  by_cases hv : Va (-1) l
  · simp only [hv, if_true, row, Option.bind_some]
    rw [decide_eq_false (fun h' => h ⟨hv, h'⟩)]
    exact yes
  · simp only [hv, if_false]
    exact Et.neg (by omega) yes
theorem rfree_start (l : List S42) (s n : Int) (v : List S42 × Int) (hn : l.length ≤ 1000000) (hv : Va (-1) l) (h1 : Row s n) (h : Et (fun k => retconref14_Free.l0 k l [] false 0 s n) v) : Et (fun k => retconref14_Free.f k l s n) v := by
  unfold retconref14_Free.f
  refine Et.bind (rcheck l (by omega) (hv.wf (by omega))) ?_
  simp only [hv, if_true, row, Option.bind_some]
  rw [decide_eq_true h1]
  refine Et.succ ?_
  simp only [retconref14_Free.j0]
  exact Et.neg (by simp) h
/-- the part ahead of the row -/
theorem rfree_a (x : S42) (v : List S42 × Int) (hr : Row x.f0 x.f1) (M : List S42) : ∀ (A R l out : List S42) (i : Int), l = A ++ (M ++ R) → i = (A.length : Int) → l.length ≤ 1000000 → Va (-1) l → (∀ y ∈ M, y.f0 + y.f1 < x.f0) → out.length + M.length ≤ 1000000 →
    Et (fun k => retconref14_Free.l0 k l (out ++ M) false ((A ++ M).length : Int) x.f0 x.f1) v → Et (fun k => retconref14_Free.l0 k l out false i x.f0 x.f1) v := by
  induction M with
  | nil =>
    intro A R l out i hl hi hb hv hM ho h
    simpa [hi] using h
  | cons y M ih =>
    intro A R l out i hl hi hb hv hM ho h
    have hlen := len_mid A y (M ++ R)
    rw [show A ++ y :: (M ++ R) = l by rw [hl]; rfl] at hlen
    have hy := hv.mem (x := y) (by simp [hl])
    obtain ⟨r1, r2, r3⟩ := id hr
    have hc := hM y (by simp)
    refine Et.succ ?_
    simp only [retconref14_Free.l0]
    refine Et.pos (by omega) (Et.pos (by omega) ?_)
    have hrd : rd_T42 l i = y := by rw [hl]; exact rd_mid A y (M ++ R) hi
    rw [hrd, wr (x := x.f0 + x.f1) (by omega), wr (x := y.f0 + y.f1) (by omega)]
    refine Et.pos (by omega) ?_
    rw [decide_eq_false (by omega)]
    refine Et.succ ?_
    simp only [retconref14_Free.j2]
    simp only [List.length_cons] at ho
    rw [wr (x := x.f0 + x.f1) (by omega), wr (x := y.f0 + y.f1) (by omega), wr (x := i + 1) (by omega)]
    refine Et.neg (by simp) (Et.neg (by omega) (Et.neg (by omega) (Et.pos (by omega) (Et.pos (by omega) ?_))))
    refine ih (A ++ [y]) R l (out ++ [y]) (i + 1) (by simp [hl]) (by simp; omega) hb hv (fun z hz => hM z (by simp [hz])) (by simp; omega) ?_
    simpa using h
/-- the part behind the row, when the row is told -/
theorem rfree_b (x : S42) (hr : Row x.f0 x.f1) (M : List S42) : ∀ (A l out : List S42) (i : Int), l = A ++ M → i = (A.length : Int) → l.length ≤ 1000000 → Va (-1) l → (∀ y ∈ M, x.f0 + x.f1 < y.f0) → out.length + M.length ≤ 3000000 →
    Et (fun k => retconref14_Free.l0 k l out true i x.f0 x.f1) (out ++ M, 0) := by
  induction M with
  | nil =>
    intro A l out i hl hi hb hv hM ho
    simp at hl
    subst hl
    refine Et.succ ?_
    simp only [retconref14_Free.l0]
    exact Et.neg (by omega) (Et.pos (by trivial) (Et.ret' (by simp)))
  | cons y M ih =>
    intro A l out i hl hi hb hv hM ho
    have hlen := len_mid A y M
    rw [← hl] at hlen
    have hy := hv.mem (x := y) (by simp [hl])
    obtain ⟨r1, r2, r3⟩ := id hr
    have hc := hM y (by simp)
    refine Et.succ ?_
    simp only [retconref14_Free.l0]
    refine Et.pos (by omega) (Et.pos (by omega) ?_)
    have hrd : rd_T42 l i = y := by rw [hl]; exact rd_mid A y M hi
    rw [hrd, wr (x := x.f0 + x.f1) (by omega)]
    refine Et.neg (by omega) (Et.succ ?_)
    simp only [retconref14_Free.j2]
    simp only [List.length_cons] at ho
    rw [wr (x := x.f0 + x.f1) (by omega), wr (x := y.f0 + y.f1) (by omega), wr (x := i + 1) (by omega)]
    refine Et.neg (by simp) (Et.neg (by omega) (Et.neg (by omega) (Et.neg (by omega) (Et.pos (by trivial) (Et.pos (by omega) ?_)))))
    have := ih (A ++ [y]) l (out ++ [y]) (i + 1) (by simp [hl]) (by simp; omega) hb hv (fun z hz => hM z (by simp [hz])) (by simp; omega)
    simpa using this
/-- the part behind the row, from its first element on: nothing begins ahead of the row's end -/
theorem rfree_r (x : S42) (hr : Row x.f0 x.f1) (A B l out : List S42) (i : Int) (hl : l = A ++ B) (hi : i = (A.length : Int)) (hb : l.length ≤ 1000000) (hv : Va (-1) l) (hB : ∀ y ∈ B, x.f0 + x.f1 ≤ y.f0) (ho : out.length ≤ 1000000) :
    Et (fun k => retconref14_Free.l0 k l out false i x.f0 x.f1) (out ++ joinR x B, 0) := by
  obtain ⟨r1, r2, r3⟩ := id hr
  cases B with
  | nil =>
    simp at hl
    subst hl
    refine Et.succ ?_
    simp only [retconref14_Free.l0]
    exact Et.neg (by omega) (Et.neg (by simp) (Et.pos (by omega) (Et.ret _)))
  | cons y B =>
    have hlen := len_mid A y B
    rw [← hl] at hlen
    have hy := hv.mem (x := y) (by simp [hl])
    have hc := hB y (by simp)
    have hvl := hv
    rw [hl] at hvl
    obtain ⟨_, e', e1, hvB, e2, _⟩ := hvl.app
    obtain ⟨g1, g2, g3, g4⟩ := hvB
    refine Et.succ ?_
    simp only [retconref14_Free.l0]
    refine Et.pos (by omega) (Et.pos (by omega) ?_)
    have hrd : rd_T42 l i = y := by rw [hl]; exact rd_mid A y B hi
    rw [hrd, wr (x := x.f0 + x.f1) (by omega)]
    refine Et.neg (by omega) (Et.succ ?_)
    simp only [retconref14_Free.j2]
    rw [wr (x := x.f0 + x.f1) (by omega), wr (x := y.f0 + y.f1) (by omega), wr (x := i + 1) (by omega)]
    refine Et.neg (by simp) (Et.neg (by omega) ?_)
    by_cases c : x.f0 + x.f1 = y.f0
    · simp only [joinR, c, if_true]
      rw [wr (x := x.f1 + y.f1) (by omega)]
      -- the row ends where y ended: the rest lies behind it
      have hx' : Row x.f0 (x.f1 + y.f1) := ⟨by omega, r2, by omega⟩
      have : ∀ (M A l out : List S42) (i : Int), l = A ++ M → i = (A.length : Int) → l.length ≤ 1000000 → Va (-1) l → (∀ z ∈ M, x.f0 + (x.f1 + y.f1) < z.f0) → out.length ≤ 1000000 →
          Et (fun k => retconref14_Free.l0 k l out false i x.f0 (x.f1 + y.f1)) (out ++ ⟨x.f0, x.f1 + y.f1⟩ :: M, 0) := by
        intro M A l out i hl hi hb hv hM ho
        cases M with
        | nil =>
          simp at hl
          subst hl
          refine Et.succ ?_
          simp only [retconref14_Free.l0]
          exact Et.neg (by omega) (Et.neg (by simp) (Et.pos (by omega) (Et.ret _)))
        | cons z M =>
          have hlen := len_mid A z M
          rw [← hl] at hlen
          have hz := hv.mem (x := z) (by simp [hl])
          have hc := hM z (by simp)
          refine Et.succ ?_
          simp only [retconref14_Free.l0]
          refine Et.pos (by omega) (Et.pos (by omega) ?_)
          have hrd : rd_T42 l i = z := by rw [hl]; exact rd_mid A z M hi
          rw [hrd, wr (x := x.f0 + (x.f1 + y.f1)) (by omega)]
          refine Et.neg (by omega) (Et.succ ?_)
          simp only [retconref14_Free.j2]
          rw [wr (x := x.f0 + (x.f1 + y.f1)) (by omega), wr (x := z.f0 + z.f1) (by omega), wr (x := i + 1) (by omega)]
          refine Et.neg (by simp) (Et.neg (by omega) (Et.neg (by omega) (Et.neg (by omega) (Et.neg (by simp) (Et.pos (by omega) ?_)))))
          simp only [Option.bind_some]
          refine Et.pos (by simp; omega) ?_
          have hvm := hv
          rw [hl] at hvm
          obtain ⟨_, e', e1, hvB, e2, _⟩ := hvm.app
          have := rfree_b ⟨x.f0, x.f1 + y.f1⟩ hx' M (A ++ [z]) l (out ++ [⟨x.f0, x.f1 + y.f1⟩] ++ [z]) (i + 1) (by simp [hl]) (by simp; omega) hb hv (fun w hw => by have := hM w (by simp [hw]); simp only; omega) (by simp; omega)
          simpa using this
      have := this B (A ++ [y]) l out (i + 1) (by simp [hl]) (by simp; omega) hb hv (fun z hz => by have := g4.mem hz; omega) ho
      simpa using this
    · simp only [joinR, c, if_false]
      refine Et.neg (by omega) (Et.neg (by simp) (Et.pos (by omega) ?_))
      simp only [Option.bind_some]
      refine Et.pos (by simp; omega) ?_
      have := rfree_b x hr B (A ++ [y]) l (out ++ [x] ++ [y]) (i + 1) (by simp [hl]) (by simp; omega) hb hv (fun z hz => by have := g4.mem hz; omega) (by simp; omega)
      simpa using this
theorem rfree_head (x : S42) (v : List S42 × Int) (hr : Row x.f0 x.f1) (A B l : List S42) (hl : l = A ++ B) (hb : l.length ≤ 1000000) (hv : Va (-1) l) (hA : ∀ y ∈ A, y.f0 + y.f1 ≤ x.f0)
    (h : Et (fun k => retconref14_Free.l0 k l (joinL A x).1 false (A.length : Int) (joinL A x).2.f0 (joinL A x).2.f1) v) : Et (fun k => retconref14_Free.l0 k l [] false 0 x.f0 x.f1) v := by
  obtain ⟨r1, r2, r3⟩ := id hr
  have hlA : l.length = A.length + B.length := by simp [hl]
  rcases List.eq_nil_or_concat A with rfl | ⟨A', y, rfl⟩
  · exact h
  · simp only [List.concat_eq_append] at *
    rw [joinL_last] at h
    have hvl := hv
    rw [hl] at hvl
    obtain ⟨hvA, _⟩ := hvl.app
    obtain ⟨_, e', e1, hvy, e2, _⟩ := hvA.app
    obtain ⟨g1, g2, g3, _⟩ := hvy
    have hy := hA y (by simp)
    by_cases c : y.f0 + y.f1 = x.f0
    · simp only [c, if_true] at h
      refine rfree_a x v hr A' [] (y :: B) l [] 0 (by simp [hl]) rfl hb hv (fun z hz => by have := e2 z hz; omega) (by simp at hlA ⊢; omega) ?_
      simp only [List.nil_append]
      have hl' : l = A' ++ y :: B := by simp [hl]
      have hlen := len_mid A' y B
      rw [← hl'] at hlen
      refine Et.succ ?_
      simp only [retconref14_Free.l0]
      refine Et.pos (by omega) (Et.pos (by omega) ?_)
      have hrd : rd_T42 l (A'.length : Int) = y := by rw [hl']; exact rd_mid A' y B rfl
      rw [hrd, wr (x := x.f0 + x.f1) (by omega), wr (x := y.f0 + y.f1) (by omega)]
      refine Et.pos (by omega) ?_
      rw [decide_eq_false (by omega)]
      refine Et.succ ?_
      simp only [retconref14_Free.j2]
      rw [wr (x := x.f0 + x.f1) (by omega), wr (x := y.f0 + y.f1) (by omega), wr (x := (A'.length : Int) + 1) (by omega), wr (x := y.f1 + x.f1) (by omega)]
      refine Et.neg (by simp) (Et.pos c ?_)
      simpa using h
    · simp only [c, if_false] at h
      refine rfree_a x v hr (A' ++ [y]) [] B l [] 0 (by simp [hl]) rfl hb hv (fun z hz => ?_) (by simp at hlA ⊢; omega) (by simpa using h)
      rcases List.mem_append.mp hz with hz | hz
      · have := e2 z hz; omega
      · simp at hz; subst hz; omega
theorem rfree_ok (A B : List S42) (s n : Int) (hn : (A ++ B).length ≤ 1000000) (hv : Va (-1) (A ++ B)) (hr : Row s n) (hA : ∀ x ∈ A, x.f0 + x.f1 ≤ s) (hB0 : ∀ y ∈ B, s + n ≤ y.f0) :
    Et (fun k => retconref14_Free.f k (A ++ B) s n) (ins A ⟨s, n⟩ B, 0) := by
  obtain ⟨r1, r2, r3⟩ := id hr
  refine rfree_start _ s n _ hn hv hr (rfree_head ⟨s, n⟩ _ hr A B _ rfl hn hv hA ?_)
  obtain ⟨f1, f2, f3, f4, f5, f6, f7, f8, f9⟩ := joinL_facts (x := ⟨s, n⟩) hv.app.1 r1 hA
  simp only at f1 f6
  have hlA : (A ++ B).length = A.length + B.length := by simp
  exact rfree_r (joinL A ⟨s, n⟩).2 ⟨f3, f6 r2, by omega⟩ A B (A ++ B) (joinL A ⟨s, n⟩).1 _ rfl rfl hn hv (fun y hy => by have := hB0 y hy; omega) (by omega)
theorem rfree_there (A : List S42) (b : S42) (B : List S42) (s n : Int) (hn : (A ++ b :: B).length ≤ 1000000) (hv : Va (-1) (A ++ b :: B)) (hr : Row s n) (hA : ∀ x ∈ A, x.f0 + x.f1 ≤ s) (hB : s < b.f0 + b.f1) (h : b.f0 < s + n) :
    Et (fun k => retconref14_Free.f k (A ++ b :: B) s n) ([], 7) := by
  obtain ⟨r1, r2, r3⟩ := id hr
  have hlen := len_mid A b B
  have hb := hv.mem (x := b) (by simp)
  refine rfree_start _ s n _ hn hv hr (rfree_head ⟨s, n⟩ _ hr A (b :: B) _ rfl hn hv hA ?_)
  obtain ⟨f1, f2, f3, f4, f5, f6, f7, f8, f9⟩ := joinL_facts (x := ⟨s, n⟩) hv.app.1 r1 hA
  simp only at f1 f6 f2
  have f6' := f6 r2
  refine Et.succ ?_
  simp only [retconref14_Free.l0]
  refine Et.pos (by omega) (Et.pos (by omega) ?_)
  rw [rd_mid A b B rfl, wr (x := (joinL A ⟨s, n⟩).2.f0 + (joinL A ⟨s, n⟩).2.f1) (by omega), wr (x := b.f0 + b.f1) (by omega)]
  refine Et.pos (by omega) ?_
  rw [decide_eq_true (by omega)]
  refine Et.succ ?_
  simp only [retconref14_Free.j2, if_true]
  exact Et.ret _
end Go.Proofs.Ytobleaodacnpiaa.Th
