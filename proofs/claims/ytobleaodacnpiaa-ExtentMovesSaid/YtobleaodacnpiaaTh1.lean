import Derived.Test.YtobleaodacnpiaaXEgfree
import Derived.Test.YtobleaodacnpiaaXEgcheck
import Derived.Test.YtobleaodacnpiaaXEgcut
import Derived.Test.YtobleaodacnpiaaXEgkit
import Derived.Test.YtobleaodacnpiaaXe
namespace Go.Proofs.Ytobleaodacnpiaa.Th
open Go.RowKit Go.Proofs.Ytobleaodacnpiaa.XE Go.Proofs.YtobleaodacnpiaaW.PrintWords Go.Proofs.YtobleaodacnpiaaW.PrintLast Go.Proofs.YtobleaodacnpiaaXe
set_option linter.unusedVariables false

/-- valid behind e -/
def Va : Int → List S42 → Prop
  | _, [] => True
  | e, x :: r => e < x.f0 ∧ 1 ≤ x.f1 ∧ x.f0 + x.f1 ≤ 65536 ∧ Va (x.f0 + x.f1) r
instance decVa : (e : Int) → (l : List S42) → Decidable (Va e l)
  | _, [] => isTrue trivial
  | e, x :: r =>
    have := decVa (x.f0 + x.f1) r
    inferInstanceAs (Decidable (e < x.f0 ∧ 1 ≤ x.f1 ∧ x.f0 + x.f1 ≤ 65536 ∧ Va (x.f0 + x.f1) r))
/-- all fields are whole numbers of 64 bits -/
def Wf (l : List S42) : Prop := ∀ x ∈ l, (-9223372036854775808 ≤ x.f0 ∧ x.f0 ≤ 9223372036854775807) ∧ (-9223372036854775808 ≤ x.f1 ∧ x.f1 ≤ 9223372036854775807)

theorem rd_mid (A : List S42) (x : S42) (B : List S42) {i : Int} (h : i = (A.length : Int)) : rd_T42 (A ++ x :: B) i = x := by
  subst h
  simp [rd_T42]
theorem len_mid (A : List S42) (x : S42) (B : List S42) : ((A ++ x :: B).length : Int) = (A.length : Int) + 1 + (B.length : Int) := by
  simp
  omega

theorem Va.wf {e : Int} {l : List S42} (he : -1 ≤ e) (h : Va e l) : Wf l := by
  induction l generalizing e with
  | nil => intro x hx; cases hx
  | cons y r ih =>
    obtain ⟨h1, h2, h3, h4⟩ := h
    intro x hx
    rcases List.mem_cons.mp hx with rfl | hx
    · omega
    · exact ih (by omega) h4 x hx

/-! ### Check -/
theorem check_l (B : List S42) : ∀ (A : List S42) (l : List S42) (e : Int) (n i : Int), l = A ++ B → n = (l.length : Int) → i = (A.length : Int) → n ≤ 100000000 → -1 ≤ e → Wf B →
    Et (fun k => extent_Check.l0 k e l n i) (if Va e B then 0 else 2) := by
  induction B with
  | nil =>
    intro A l e n i hl hn hi hb he hw
    refine Et.succ ?_
    simp only [extent_Check.l0]
    simp at hl
    subst hl
    refine Et.neg (by omega) ?_
    simpa [Va] using Et.ret (0 : Int)
  | cons x B ih =>
    intro A l e n i hl hn hi hb he hw
    have hlen := len_mid A x B
    rw [← hl] at hlen
    have hx := hw x (by simp)
    refine Et.succ ?_
    simp only [extent_Check.l0]
    refine Et.pos (by omega) (Et.pos (by omega) (Et.pos (by omega) ?_))
    rw [hl, rd_mid A x B hi, ← hl]
    have bad : ∀ c d, ¬ Va e (x :: B) → Et (fun k => extent_Check.j1 k l n i true c d) (if Va e (x :: B) then 0 else 2) := by
      intro c d hv
      refine Et.succ ?_
      simp only [extent_Check.j1, if_true, hv, if_false]
      exact Et.ret 2
    refine Et.ite (fun c => bad _ _ (fun h => by have := h.2.1; omega)) fun c1 => ?_
    refine Et.ite (fun c => bad _ _ (fun h => by have := h.1; omega)) fun c2 => ?_
    refine Et.ite (fun c => bad _ _ (fun h => by have := h.1; omega)) fun c3 => ?_
    refine Et.ite (fun c => bad _ _ (fun h => by have := h.1; have := h.2.1; have := h.2.2.1; omega)) fun c4 => ?_
    rw [wr (x := 65536 - x.f0) (by omega)]
    by_cases c5 : x.f1 > 65536 - x.f0
    · simp only [c5, decide_true]
      exact bad _ _ (fun h => by have := h.2.2.1; omega)
    · simp only [c5, decide_false]
      refine Et.succ ?_
      simp only [extent_Check.j1, extent_end.f, Option.bind_some]
      refine Et.neg (by simp) ?_
      rw [wr (x := x.f0 + x.f1) (by omega), wr (x := i + 1) (by omega)]
      have := ih (A ++ [x]) l (x.f0 + x.f1) n (i + 1) (by simp [hl]) hn (by simp; omega) hb (by omega) (fun y hy => hw y (by simp [hy]))
      have hv : Va e (x :: B) ↔ Va (x.f0 + x.f1) B := ⟨fun h => h.2.2.2, fun h => ⟨by omega, by omega, by omega, h⟩⟩
      simpa only [hv] using this
theorem check (l : List S42) (hn : l.length ≤ 100000000) (hw : Wf l) : Et (fun k => extent_Check.f k l) (if Va (-1) l then 0 else 2) := by
  unfold extent_Check.f
  exact check_l l [] l (-1) _ 0 rfl rfl rfl (by omega) (by omega) hw

/-! ### Total -/
def sum : List S42 → Int
  | [] => 0
  | x :: r => x.f1 + sum r
theorem sum_app (A B : List S42) : sum (A ++ B) = sum A + sum B := by
  induction A with
  | nil => simp [sum]
  | cons x A ih => simp [sum, ih]; omega
theorem Va.sum_le {e : Int} {l : List S42} (h : Va e l) (hl : e ≤ 65536) : 0 ≤ sum l ∧ sum l ≤ 65536 - e := by
  induction l generalizing e with
  | nil => simp [sum]; omega
  | cons x r ih =>
    have := ih h.2.2.2 h.2.2.1
    obtain ⟨h1, h2, h3, _⟩ := h
    simp only [sum]
    omega
theorem total_l (B : List S42) : ∀ (A l : List S42) (s n i : Int), l = A ++ B → n = (l.length : Int) → i = (A.length : Int) → n ≤ 100000000 → Wf B → (∃ e, -1 ≤ e ∧ e ≤ 65536 ∧ Va e B ∧ 0 ≤ s ∧ s ≤ e + 1) →
    Et (fun k => extent_Total.l0 k s l n i) (s + sum B) := by
  induction B with
  | nil =>
    intro A l s n i hl hn hi hb hw _
    refine Et.succ ?_
    simp only [extent_Total.l0]
    simp at hl
    subst hl
    refine Et.neg (by omega) ?_
    simpa [sum] using Et.ret s
  | cons x B ih =>
    intro A l s n i hl hn hi hb hw ⟨e, he0, he1, hv, hs0, hs1⟩
    have hlen := len_mid A x B
    rw [← hl] at hlen
    refine Et.succ ?_
    simp only [extent_Total.l0]
    refine Et.pos (by omega) (Et.pos (by omega) (Et.pos (by omega) ?_))
    rw [hl, rd_mid A x B hi, ← hl]
    obtain ⟨h1, h2, h3, h4⟩ := hv
    rw [wr (x := s + x.f1) (by omega), wr (x := i + 1) (by omega)]
    have := ih (A ++ [x]) l (s + x.f1) n (i + 1) (by simp [hl]) hn (by simp; omega) hb (fun y hy => hw y (by simp [hy])) ⟨x.f0 + x.f1, by omega, h3, h4, by omega, by omega⟩
    simp only [sum]
    rwa [Int.add_assoc] at this
theorem total (l : List S42) (hn : l.length ≤ 100000000) (hw : Wf l) : Et (fun k => extent_Total.f k l) (if Va (-1) l then sum l else 0) := by
  unfold extent_Total.f
  refine Et.bind (check l hn hw) ?_
  by_cases hv : Va (-1) l
  · simp only [hv, if_true]
    have := total_l l [] l 0 _ 0 rfl rfl rfl (by omega) hw ⟨-1, by omega, by omega, hv, by omega, by omega⟩
    simpa using this
  · simp only [hv, if_false]
    exact Et.neg (by omega) (Et.ret 0)

/-! ### place: a valid list in two parts -/
theorem Va.app {e : Int} {A B : List S42} (h : Va e (A ++ B)) : Va e A ∧ ∃ e', e ≤ e' ∧ Va e' B ∧ (∀ x ∈ A, x.f0 + x.f1 ≤ e') ∧ (A = [] → e' = e) := by
  induction A generalizing e with
  | nil => exact ⟨trivial, e, Int.le_refl _, h, fun x hx => (by cases hx), fun _ => rfl⟩
  | cons x A ih =>
    obtain ⟨h1, h2, h3, h4⟩ := h
    obtain ⟨i1, e', i2, i3, i4, _⟩ := ih h4
    refine ⟨⟨h1, h2, h3, i1⟩, e', by omega, i3, fun y hy => ?_, fun h => (by cases h)⟩
    rcases List.mem_cons.mp hy with rfl | hy
    · exact i2
    · exact i4 y hy
/-- every element of a valid list begins behind e, ends behind it, is not empty -/
theorem Va.mem {e : Int} {l : List S42} (h : Va e l) {x : S42} (hx : x ∈ l) : e < x.f0 ∧ 1 ≤ x.f1 ∧ x.f0 + x.f1 ≤ 65536 := by
  induction l generalizing e with
  | nil => cases hx
  | cons y r ih =>
    obtain ⟨h1, h2, h3, h4⟩ := h
    rcases List.mem_cons.mp hx with rfl | hx
    · exact ⟨h1, h2, h3⟩
    · have := ih h4 hx
      omega
theorem Va.parts {e : Int} {l : List S42} (h : Va e l) (at_ : Int) : ∃ A B, l = A ++ B ∧ (∀ x ∈ A, x.f0 + x.f1 ≤ at_) ∧ (∀ x ∈ B, at_ < x.f0 + x.f1) := by
  induction l generalizing e with
  | nil => exact ⟨[], [], rfl, fun x hx => (by cases hx), fun x hx => (by cases hx)⟩
  | cons y r ih =>
    obtain ⟨h1, h2, h3, h4⟩ := h
    by_cases c : y.f0 + y.f1 ≤ at_
    · obtain ⟨A, B, h5, h6, h7⟩ := ih h4
      refine ⟨y :: A, B, by rw [h5]; rfl, fun x hx => ?_, h7⟩
      rcases List.mem_cons.mp hx with rfl | hx
      · exact c
      · exact h6 x hx
    · refine ⟨[], y :: r, rfl, fun x hx => (by cases hx), fun x hx => ?_⟩
      rcases List.mem_cons.mp hx with rfl | hx
      · omega
      · have := h4.mem hx
        omega
theorem place_l (A B : List S42) (at_ : Int) (hw : Wf (A ++ B)) (hA : ∀ x ∈ A, x.f0 + x.f1 ≤ at_ ∧ x.f0 + x.f1 ≤ 65536 ∧ 0 ≤ x.f0 + x.f1) (hB : ∀ x ∈ B, at_ < x.f0 + x.f1 ∧ x.f0 + x.f1 ≤ 65536 ∧ 0 ≤ x.f0 + x.f1) :
    ∀ (d : Nat) (i j : Int), 0 ≤ i → i ≤ A.length → (A.length : Int) ≤ j → j ≤ (A ++ B).length → j - i ≤ d → Et (fun k => extent_list_place.l0 k (A ++ B) at_ i j) (A.length : Int) := by
  intro d
  induction d with
  | zero =>
    intro i j h0 h1 h2 h3 h4
    refine Et.succ ?_
    simp only [extent_list_place.l0]
    refine Et.neg (by omega) (Et.ret' (by omega))
  | succ d ih =>
    intro i j h0 h1 h2 h3 h4
    refine Et.succ ?_
    simp only [extent_list_place.l0]
    refine Et.ite (fun hij => ?_) (fun hij => Et.ret' (by omega))
    have hm0 : 0 ≤ (i + j) / 2 := by omega
    have hm1 : i ≤ (i + j) / 2 := by omega
    have hm2 : (i + j) / 2 < j := by omega
    generalize hm : (i + j) / 2 = m at hm0 hm1 hm2 ⊢
    have hlen : m.toNat < (A ++ B).length := by omega
    have hrd : rd_T42 (A ++ B) m = (A ++ B)[m.toNat] := by simp [rd_T42, List.getD, List.getElem?_eq_getElem hlen]
    by_cases hc : m.toNat < A.length
    · have hx : (A ++ B)[m.toNat] = A[m.toNat] := List.getElem_append_left hc
      have := hA A[m.toNat] (List.getElem_mem hc)
      rw [hrd, hx, wr (x := A[m.toNat].f0 + A[m.toNat].f1) (by omega)]
      refine Et.pos (by omega) (ih _ _ (by omega) (by omega) h2 h3 (by omega))
    · have hx : (A ++ B)[m.toNat] = B[m.toNat - A.length]'(by simp at hlen; omega) := List.getElem_append_right (by omega)
      have := hB (B[m.toNat - A.length]'(by simp at hlen; omega)) (List.getElem_mem _)
      rw [hrd, hx, wr (x := (B[m.toNat - A.length]'(by simp at hlen; omega)).f0 + (B[m.toNat - A.length]'(by simp at hlen; omega)).f1) (by omega)]
      refine Et.neg (by omega) (ih _ _ h0 h1 (by omega) (by omega) (by omega))
theorem place (A B : List S42) (at_ : Int) (hn : (A ++ B).length ≤ 100000000) (hv : Va (-1) (A ++ B)) (hA : ∀ x ∈ A, x.f0 + x.f1 ≤ at_) (hB : ∀ x ∈ B, at_ < x.f0 + x.f1) :
    Et (fun k => extent_list_place.f k (A ++ B) at_) (A.length : Int) := by
  unfold extent_list_place.f
  refine Et.pos (by omega) ?_
  refine place_l A B at_ (hv.wf (by omega)) (fun x hx => ?_) (fun x hx => ?_) (A ++ B).length 0 _ (by omega) (by omega) (by simp; omega) (Int.le_refl _) (by omega)
  · have := hv.mem (x := x) (by simp [hx]); exact ⟨hA x hx, by omega, by omega⟩
  · have := hv.mem (x := x) (by simp [hx]); exact ⟨hB x hx, by omega, by omega⟩

/-! ### Has -/
def Has (l : List S42) (s : Int) : Prop := ∃ x ∈ l, x.f0 ≤ s ∧ s < x.f0 + x.f1
instance (l : List S42) (s : Int) : Decidable (Has l s) := inferInstanceAs (Decidable (∃ x ∈ l, x.f0 ≤ s ∧ s < x.f0 + x.f1))
theorem Has.parts {A B : List S42} {s : Int} (hv : Va (-1) (A ++ B)) (hA : ∀ x ∈ A, x.f0 + x.f1 ≤ s) (hB : ∀ x ∈ B, s < x.f0 + x.f1) : Has (A ++ B) s ↔ ∃ b B', B = b :: B' ∧ b.f0 ≤ s := by
  constructor
  · rintro ⟨x, hx, h1, h2⟩
    rcases List.mem_append.mp hx with hx | hx
    · have := hA x hx; omega
    · cases B with
      | nil => cases hx
      | cons b B' =>
        refine ⟨b, B', rfl, ?_⟩
        obtain ⟨_, e', _, h3, _⟩ := hv.app
        rcases List.mem_cons.mp hx with rfl | hx
        · exact h1
        · have := h3.2.2.2.mem hx
          have := h3.2.1
          omega
  · rintro ⟨b, B', rfl, h⟩
    exact ⟨b, by simp, h, hB b (by simp)⟩
theorem has (l : List S42) (s : Int) (hn : l.length ≤ 100000000) (hw : Wf l) : Et (fun k => extent_Has.f k l s) (decide (Va (-1) l ∧ Has l s)) := by
  unfold extent_Has.f
  refine Et.bind (check l hn hw) ?_
  by_cases hv : Va (-1) l
  · simp only [hv, if_true]
    obtain ⟨A, B, rfl, hA, hB⟩ := hv.parts s
    refine Et.bind (place A B s hn hv hA hB) ?_
    have hp := Has.parts hv hA hB
    cases B with
    | nil =>
      have : ¬ Has (A ++ []) s := by rw [hp]; rintro ⟨_, _, h, _⟩; cases h
      refine Et.neg (by simp) ?_
      exact Et.ret' (decide_eq_false (fun h => this h.2)).symm
    | cons b B =>
      have hlen := len_mid A b B
      refine Et.pos (by omega) (Et.pos (by omega) ?_)
      rw [rd_mid A b B rfl]
      have : Has (A ++ b :: B) s ↔ b.f0 ≤ s := by rw [hp]; constructor; · rintro ⟨_, _, h, h'⟩; cases h; exact h'
                                                  · exact fun h => ⟨_, _, rfl, h⟩
      simpa [this] using Et.ret (decide (b.f0 ≤ s))
  · simp only [hv, if_false, false_and, decide_false]
    exact Et.neg (by omega) (Et.ret _)
end Go.Proofs.Ytobleaodacnpiaa.Th
