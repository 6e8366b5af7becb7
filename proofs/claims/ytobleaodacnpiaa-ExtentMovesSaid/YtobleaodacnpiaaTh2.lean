import Derived.Test.YtobleaodacnpiaaTh1
namespace Go.Proofs.Ytobleaodacnpiaa.Th
open Go.RowKit Go.Proofs.Ytobleaodacnpiaa.XE Go.Proofs.YtobleaodacnpiaaW.PrintWords Go.Proofs.YtobleaodacnpiaaW.PrintLast Go.Proofs.YtobleaodacnpiaaXe
set_option linter.unusedVariables false

/-! ### cut, Alloc, Take -/
/-- what is left of x without n sectors from s on -/
def parts (x : S42) (s n : Int) : List S42 := (if s > x.f0 then [⟨x.f0, s - x.f0⟩] else []) ++ (if s + n < x.f0 + x.f1 then [⟨s + n, x.f0 + x.f1 - s - n⟩] else [])
theorem parts_len (x : S42) (s n : Int) : (parts x s n).length ≤ 2 := by
  unfold parts; split <;> split <;> simp
theorem erase_mid (A : List S42) (x : S42) (B : List S42) : (A ++ x :: B).eraseIdx A.length = A ++ B := by
  induction A with
  | nil => simp
  | cons y A ih => simp [ih]
theorem delete_mid (A : List S42) (x : S42) (B : List S42) {i j : Int} (hi : i = (A.length : Int)) (hj : j = i + 1) : slices_Delete.f (A ++ x :: B) i j = some (A ++ B) := by
  have := len_mid A x B
  unfold slices_Delete.f
  rw [if_pos ⟨by omega, by omega, hj⟩, show i.toNat = A.length by omega, erase_mid]
theorem insert_mid (A B l : List S42) {i : Int} (hi : i = (A.length : Int)) (hn : A.length + B.length + l.length ≤ 100000000) : slices_Insert.f (A ++ B) i l = some (A ++ (l ++ B)) := by
  unfold slices_Insert.f
  rw [if_pos ⟨by omega, by simp; omega, by simp; omega⟩, show i.toNat = A.length by omega]
  simp
theorem clone_id (l : List S42) (hn : l.length ≤ 100000000) : slices_Clone_38.f l = some l ∧ slices_Clone_35.f l = some l := by
  unfold slices_Clone_38.f slices_Clone_35.f
  exact ⟨if_pos (by omega), if_pos (by omega)⟩
theorem cut_j1 (A : List S42) (x : S42) (B l : List S42) {i : Int} (hi : i = (A.length : Int)) (hn : (A ++ x :: B).length ≤ 10000000) (hl : l.length ≤ 2) : Et (fun k => extent_list_cut.j1 k (A ++ x :: B) i l) (A ++ l ++ B) := by
  have hlen := len_mid A x B
  refine Et.succ ?_
  simp only [extent_list_cut.j1]
  rw [(clone_id _ (by omega)).1]
  simp only [Option.bind_some]
  rw [delete_mid A x B hi (wr (by omega))]
  simp only [Option.bind_some]
  rw [insert_mid A B l hi (by omega)]
  exact Et.ret' (by simp)
theorem cut (A : List S42) (x : S42) (B : List S42) (s n : Int) {i : Int} (hi : i = (A.length : Int)) (hn : (A ++ x :: B).length ≤ 10000000) (h0 : 0 ≤ x.f0) (h1 : x.f0 + x.f1 ≤ 65536) (h2 : x.f0 ≤ s) (h3 : 1 ≤ n) (h4 : s + n ≤ x.f0 + x.f1) :
    Et (fun k => extent_list_cut.f k (A ++ x :: B) i s n) (A ++ parts x s n ++ B) := by
  have hlen := len_mid A x B
  unfold extent_list_cut.f
  refine Et.pos (by omega) (Et.pos (by omega) ?_)
  rw [rd_mid A x B hi]
  have rest : ∀ l : List S42, l.length ≤ 1 → Et (fun k => extent_list_cut.j0 k (A ++ x :: B) i s n l x.f0 x.f1) (A ++ (l ++ if s + n < x.f0 + x.f1 then [⟨s + n, x.f0 + x.f1 - s - n⟩] else []) ++ B) := by
    intro l hl
    refine Et.succ ?_
    simp only [extent_list_cut.j0, extent_end.f, Option.bind_some]
    rw [wr (x := s + n) (by omega), wr (x := x.f0 + x.f1) (by omega), wr (x := x.f0 + x.f1 - s) (by omega), wr (x := x.f0 + x.f1 - s - n) (by omega)]
    by_cases c : s + n < x.f0 + x.f1
    · simp only [c, if_true]
      refine Et.pos (by omega) ?_
      exact cut_j1 A x B _ hi hn (by simp; omega)
    · simp only [c, if_false]
      rw [List.append_nil]
      exact cut_j1 A x B l hi hn (by omega)
  unfold parts
  rw [wr (x := s - x.f0) (by omega)]
  by_cases c : s > x.f0
  · simp only [c, if_true]
    refine Et.pos (by simp) ?_
    exact rest [⟨x.f0, s - x.f0⟩] (by simp)
  · simp only [c, if_false]
    exact rest [] (by simp)

/-- the first extent of at least n sectors -/
theorem first (l : List S42) (n : Int) : (∀ x ∈ l, x.f1 < n) ∨ ∃ A x B, l = A ++ x :: B ∧ (∀ y ∈ A, y.f1 < n) ∧ n ≤ x.f1 := by
  induction l with
  | nil => exact Or.inl (fun x hx => by cases hx)
  | cons y r ih =>
    by_cases c : n ≤ y.f1
    · exact Or.inr ⟨[], y, r, rfl, fun x hx => (by cases hx), c⟩
    · rcases ih with h | ⟨A, x, B, rfl, h1, h2⟩
      · refine Or.inl fun x hx => ?_
        rcases List.mem_cons.mp hx with rfl | hx
        · omega
        · exact h x hx
      · refine Or.inr ⟨y :: A, x, B, rfl, fun z hz => ?_, h2⟩
        rcases List.mem_cons.mp hz with rfl | hz
        · omega
        · exact h1 z hz
theorem alloc_none (n : Int) (B : List S42) : ∀ (A l : List S42) (i : Int), l = A ++ B → i = (A.length : Int) → (∀ y ∈ B, y.f1 < n) → Et (fun k => extent_Alloc.l0 k l n i) (-1) := by
  induction B with
  | nil =>
    intro A l i hl hi hB
    simp at hl
    subst hl
    refine Et.succ ?_
    simp only [extent_Alloc.l0]
    exact Et.neg (by omega) (Et.ret _)
  | cons y B ih =>
    intro A l i hl hi hB
    have hlen := len_mid A y B
    rw [← hl] at hlen
    refine Et.succ ?_
    simp only [extent_Alloc.l0]
    refine Et.pos (by omega) ?_
    rw [hl, rd_mid A y B hi, ← hl]
    have := hB y (by simp)
    refine Et.neg (by omega) ?_
    exact ih (A ++ [y]) l (i + 1) (by simp [hl]) (by simp; omega) (fun z hz => hB z (by simp [hz]))
theorem alloc_some (n : Int) (x : S42) (B : List S42) (hx : n ≤ x.f1) (M : List S42) : ∀ (A l : List S42) (i : Int), l = A ++ M ++ x :: B → i = (A.length : Int) → (∀ y ∈ M, y.f1 < n) → Et (fun k => extent_Alloc.l0 k l n i) ((A ++ M).length : Int) := by
  induction M with
  | nil =>
    intro A l i hl hi hM
    simp at hl
    have hlen := len_mid A x B
    rw [← hl] at hlen
    refine Et.succ ?_
    simp only [extent_Alloc.l0]
    refine Et.pos (by omega) ?_
    rw [hl, rd_mid A x B hi, ← hl]
    refine Et.pos (by omega) (Et.ret' (by simp [hi]))
  | cons y M ih =>
    intro A l i hl hi hM
    have hl' : l = A ++ y :: (M ++ x :: B) := by simp [hl]
    have hlen := len_mid A y (M ++ x :: B)
    rw [← hl'] at hlen
    refine Et.succ ?_
    simp only [extent_Alloc.l0]
    refine Et.pos (by omega) ?_
    rw [hl', rd_mid A y _ hi, ← hl']
    have := hM y (by simp)
    refine Et.neg (by omega) ?_
    have := ih (A ++ [y]) l (i + 1) (by simp [hl]) (by simp; omega) (fun z hz => hM z (by simp [hz]))
    simpa using this
theorem alloc_bad (l : List S42) (n : Int) (hn : l.length ≤ 10000000) (hw : Wf l) (h : ¬ (Va (-1) l ∧ 1 ≤ n)) : Et (fun k => extent_Alloc.f k l n) (0, [], 2) := by
  unfold extent_Alloc.f
  refine Et.bind (check l (by omega) hw) ?_
  by_cases hv : Va (-1) l
  · simp only [hv, if_true]
    exact Et.pos (by have : ¬ 1 ≤ n := fun h' => h ⟨hv, h'⟩; omega) (Et.ret _)
  · simp only [hv, if_false]
    exact Et.neg (by omega) (Et.ret _)
theorem alloc_full (l : List S42) (n : Int) (hn : l.length ≤ 10000000) (hv : Va (-1) l) (h1 : 1 ≤ n) (h : ∀ y ∈ l, y.f1 < n) : Et (fun k => extent_Alloc.f k l n) (0, [], 8) := by
  unfold extent_Alloc.f
  refine Et.bind (check l (by omega) (hv.wf (by omega))) ?_
  simp only [hv, if_true]
  refine Et.neg (by omega) (Et.bind (alloc_none n l [] l 0 rfl rfl h) ?_)
  exact Et.pos (by omega) (Et.ret _)
theorem alloc_ok (A : List S42) (x : S42) (B : List S42) (n : Int) (hn : (A ++ x :: B).length ≤ 10000000) (hv : Va (-1) (A ++ x :: B)) (h1 : 1 ≤ n) (h : ∀ y ∈ A, y.f1 < n) (hx : n ≤ x.f1) :
    Et (fun k => extent_Alloc.f k (A ++ x :: B) n) (x.f0, A ++ parts x x.f0 n ++ B, 0) := by
  have hlen := len_mid A x B
  have hm := hv.mem (x := x) (by simp)
  unfold extent_Alloc.f
  refine Et.bind (check _ (by omega) (hv.wf (by omega))) ?_
  simp only [hv, if_true]
  have := alloc_some n x B hx A [] (A ++ x :: B) 0 (by simp) rfl h
  refine Et.neg (by omega) (Et.bind this ?_)
  simp only [List.nil_append]
  refine Et.neg (by omega) (Et.pos (by omega) ?_)
  rw [rd_mid A x B rfl]
  exact Et.bind (cut A x B x.f0 n rfl (by omega) (by omega) (by omega) (by omega) (by omega) (by omega)) (Et.ret _)

/-- may n sectors from s on be? -/
def Row (s n : Int) : Prop := 1 ≤ n ∧ 0 ≤ s ∧ s + n ≤ 65536
instance (s n : Int) : Decidable (Row s n) := inferInstanceAs (Decidable (1 ≤ n ∧ 0 ≤ s ∧ s + n ≤ 65536))
theorem bad (l : List S42) (s n : Int) (hn : l.length ≤ 10000000) (hw : Wf l) : Et (fun k => extent_bad.f k l s n) (decide (¬ (Va (-1) l ∧ Row s n))) := by
  unfold extent_bad.f
  refine Et.bind (check _ (by omega) hw) ?_
  by_cases hv : Va (-1) l
  · simp only [hv, if_true]
    refine Et.ite (fun c => Et.ret' (by symm; apply decide_eq_true; intro h; have := h.2.1; omega)) fun c1 => ?_
    refine Et.ite (fun c => Et.ret' (by symm; apply decide_eq_true; intro h; have := h.2.2.1; omega)) fun c2 => ?_
    refine Et.ite (fun c => Et.ret' (by symm; apply decide_eq_true; intro h; have := h.2.2.2; omega)) fun c3 => ?_
    refine Et.ret' ?_
    rw [wr (x := 65536 - s) (by omega)]
    congr 1
    simp only [Row, true_and, eq_iff_iff]
    omega
  · simp only [hv, if_false]
    exact Et.neg (by omega) (Et.ret' (by simp))

theorem take_bad (l : List S42) (s n : Int) (hn : l.length ≤ 10000000) (hw : Wf l) (h : ¬ (Va (-1) l ∧ Row s n)) : Et (fun k => extent_Take.f k l s n) ([], 2) := by
  unfold extent_Take.f
  refine Et.bind (bad l s n hn hw) ?_
  simp only [h, not_false_eq_true, decide_true, if_true]
  exact Et.ret _
theorem take_there (A B : List S42) (s n : Int) (hn : (A ++ B).length ≤ 10000000) (hv : Va (-1) (A ++ B)) (hr : Row s n) (hA : ∀ x ∈ A, x.f0 + x.f1 ≤ s) (hB : ∀ x ∈ B, s < x.f0 + x.f1)
    (h : ∀ b B', B = b :: B' → s < b.f0 ∨ b.f0 + b.f1 < s + n) : Et (fun k => extent_Take.f k (A ++ B) s n) ([], 7) := by
  unfold extent_Take.f
  refine Et.bind (bad _ s n hn (hv.wf (by omega))) ?_
  simp only [hv, hr, not_true_eq_false, and_self, decide_false]
  refine Et.neg (by simp) (Et.bind (place A B s (by omega) hv hA hB) ?_)
  have hj : ∀ i, Et (fun k => extent_Take.j0 k (A ++ B) s n i true) ([], 7) := by
    intro i
    refine Et.succ ?_
    simp only [extent_Take.j0, if_true]
    exact Et.ret _
  cases B with
  | nil => exact Et.pos (by simp) (hj _)
  | cons b B =>
    have hlen := len_mid A b B
    have hb := hv.mem (x := b) (by simp)
    obtain ⟨r1, r2, r3⟩ := hr
    refine Et.neg (by omega) (Et.pos (by omega) (Et.pos (by omega) ?_))
    rw [rd_mid A b B rfl]
    refine Et.ite (fun c => hj _) fun c => ?_
    simp only [extent_end.f, Option.bind_some]
    rw [wr (x := b.f0 + b.f1) (by omega), wr (x := s + n) (by omega)]
    have := h b B rfl
    rw [decide_eq_true (show b.f0 + b.f1 < s + n by omega)]
    exact hj _
theorem take_ok (A : List S42) (x : S42) (B : List S42) (s n : Int) (hn : (A ++ x :: B).length ≤ 10000000) (hv : Va (-1) (A ++ x :: B)) (hr : Row s n) (hA : ∀ x ∈ A, x.f0 + x.f1 ≤ s) (hB : ∀ y ∈ x :: B, s < y.f0 + y.f1)
    (h0 : x.f0 ≤ s) (h1 : s + n ≤ x.f0 + x.f1) : Et (fun k => extent_Take.f k (A ++ x :: B) s n) (A ++ parts x s n ++ B, 0) := by
  have hlen := len_mid A x B
  have hb := hv.mem (x := x) (by simp)
  obtain ⟨r1, r2, r3⟩ := id hr
  unfold extent_Take.f
  refine Et.bind (bad _ s n hn (hv.wf (by omega))) ?_
  simp only [hv, hr, not_true_eq_false, and_self, decide_false]
  refine Et.neg (by simp) (Et.bind (place A (x :: B) s (by omega) hv hA hB) ?_)
  refine Et.neg (by omega) (Et.pos (by omega) (Et.pos (by omega) ?_))
  rw [rd_mid A x B rfl]
  refine Et.neg (by omega) ?_
  simp only [extent_end.f, Option.bind_some]
  rw [wr (x := x.f0 + x.f1) (by omega), wr (x := s + n) (by omega), decide_eq_false (show ¬ x.f0 + x.f1 < s + n by omega)]
  refine Et.succ ?_
  simp only [extent_Take.j0]
  refine Et.neg (by simp) ?_
  exact Et.bind (cut A x B s n rfl hn (by omega) (by omega) h0 r1 h1) (Et.ret _)

/-! ### SameExtents -/
instance decS : DecidableEq S42 := fun a b => if h : a.f0 = b.f0 ∧ a.f1 = b.f1 then isTrue (by cases a; cases b; simp_all) else isFalse (fun e => h (by rw [e]; exact ⟨rfl, rfl⟩))
theorem same_l (B : List S42) : ∀ (A l l' B' : List S42) (i : Int), l = A ++ B → l' = A ++ B' → i = (A.length : Int) → l.length ≤ 100000000 → B.length = B'.length →
    Et (fun k => retconkit_SameExtents.l0 k l l' i) (decide (B = B')) := by
  induction B with
  | nil =>
    intro A l l' B' i hl hl' hi hn hb
    obtain rfl : B' = [] := List.length_eq_zero_iff.mp hb.symm
    simp at hl
    subst hl
    refine Et.succ ?_
    simp only [retconkit_SameExtents.l0]
    exact Et.neg (by omega) (Et.ret' (by simp))
  | cons x B ih =>
    intro A l l' B' i hl hl' hi hn hb
    cases B' with
    | nil => cases hb
    | cons y B' =>
      have hlen := len_mid A x B
      rw [← hl] at hlen
      have hlen' := len_mid A y B'
      rw [← hl'] at hlen'
      refine Et.succ ?_
      simp only [retconkit_SameExtents.l0]
      refine Et.pos (by omega) (Et.pos (by omega) (Et.pos (by omega) ?_))
      have e1 : rd_T42 l i = x := by rw [hl]; exact rd_mid A x B hi
      have e2 : rd_T42 l' i = y := by rw [hl']; exact rd_mid A y B' hi
      rw [e1, e2]
      by_cases hxy : x = y
      · subst hxy
        refine Et.neg (by simp) ?_
        rw [wr (x := i + 1) (by omega)]
        have := ih (A ++ [x]) l l' B' (i + 1) (by simp [hl]) (by simp [hl']) (by simp; omega) hn (by simpa using hb)
        simpa using this
      · refine Et.pos ?_ (Et.ret' (by simp [hxy]))
        cases x; cases y
        simp at hxy ⊢
        omega
theorem same (l l' : List S42) (hn : l.length ≤ 100000000) : Et (fun k => retconkit_SameExtents.f k l l') (decide (l = l')) := by
  unfold retconkit_SameExtents.f
  refine Et.ite (fun c => same_l l [] l l' l' 0 rfl rfl rfl hn (by omega)) fun c => Et.ret' ?_
  symm
  apply decide_eq_false
  rintro rfl
  exact c rfl
end Go.Proofs.Ytobleaodacnpiaa.Th
