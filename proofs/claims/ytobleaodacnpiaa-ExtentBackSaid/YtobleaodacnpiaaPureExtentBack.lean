import Derived.Test.YtobleaodacnpiaaXEfretconlaw14ExtentBack
import Derived.Test.YtobleaodacnpiaaPureExtentKnown
import Derived.Test.YtobleaodacnpiaaTh3
namespace Go.Proofs.Ytobleaodacnpiaa.Pure
open Go.RowKit Go.Proofs.Ytobleaodacnpiaa.XE Go.Proofs.YtobleaodacnpiaaW.PrintWords Go.Proofs.YtobleaodacnpiaaW.PrintLast Go.Proofs.YtobleaodacnpiaaXe Go.Proofs.Ytobleaodacnpiaa.Th
set_option linter.unusedVariables false

theorem joinL_id {A : List S42} {x : S42} (h : ∀ y ∈ A, y.f0 + y.f1 < x.f0) : joinL A x = (A, x) := by
  rcases List.eq_nil_or_concat A with rfl | ⟨A', y, rfl⟩
  · rfl
  · simp only [List.concat_eq_append] at *
    rw [joinL_last]
    have := h y (by simp)
    rw [if_neg (by omega)]
def rest (x : S42) (n : Int) : List S42 := if x.f0 + n < x.f0 + x.f1 then [⟨x.f0 + n, x.f0 + x.f1 - x.f0 - n⟩] else []
theorem parts_first (x : S42) (n : Int) : parts x x.f0 n = rest x n := by
  unfold parts rest
  rw [if_neg (by omega), List.nil_append]
theorem has_app (l l' : List S42) (i : Int) : Has (l ++ l') i ↔ (Has l i ∨ Has l' i) := by
  constructor
  · rintro ⟨x, hx, h⟩
    rcases List.mem_append.mp hx with hx | hx
    · exact Or.inl ⟨x, hx, h⟩
    · exact Or.inr ⟨x, hx, h⟩
  · rintro (⟨x, hx, h⟩ | ⟨x, hx, h⟩)
    · exact ⟨x, by simp [hx], h⟩
    · exact ⟨x, by simp [hx], h⟩
/-- what is left: the sectors but those of the row; the row's freeing gives all back -/
theorem left_facts {A : List S42} {x : S42} {B : List S42} {n : Int} (hv : Va (-1) (A ++ x :: B)) (h1 : 1 ≤ n) (hn : n ≤ x.f1) :
    Va (-1) (A ++ (rest x n ++ B)) ∧ sum (A ++ (rest x n ++ B)) + n = sum (A ++ x :: B) ∧ (∀ s, Has (A ++ (rest x n ++ B)) s ↔ (Has (A ++ x :: B) s ∧ ¬ (x.f0 ≤ s ∧ s < x.f0 + n))) ∧
    (∀ y ∈ A, y.f0 + y.f1 ≤ x.f0) ∧ (∀ y ∈ rest x n ++ B, x.f0 < y.f0 + y.f1) ∧ (∀ y ∈ rest x n ++ B, x.f0 + n ≤ y.f0) ∧ ins A ⟨x.f0, n⟩ (rest x n ++ B) = A ++ x :: B ∧ (∀ y ∈ x :: B, x.f0 < y.f0 + y.f1) ∧ (rest x n).length ≤ 1 := by
  obtain ⟨hvA, e', e1, hvB, e2, _⟩ := hv.app
  obtain ⟨g1, g2, g3, g4⟩ := hvB
  have hA : ∀ y ∈ A, y.f0 + y.f1 < x.f0 := fun y hy => by have := e2 y hy; omega
  have hB : ∀ y ∈ B, x.f0 + x.f1 < y.f0 ∧ 1 ≤ y.f1 := fun y hy => by have := g4.mem hy; omega
  have hvr : Va (x.f0 - 1) (rest x n ++ B) := by
    unfold rest
    split
    · exact ⟨by simp only; omega, by simp only; omega, by simp only; omega, g4.weak fun y hy => by have := hB y hy; simp only; omega⟩
    · exact g4.weak fun y hy => by have := hB y hy; omega
  have hsum : sum (rest x n) + n = x.f1 := by
    unfold rest
    split
    · simp [sum]; omega
    · simp [sum]; omega
  have hrest : ∀ s, Has (rest x n) s ↔ (x.f0 + n ≤ s ∧ s < x.f0 + x.f1) := by
    intro s
    unfold rest
    split
    · simp [Has]; omega
    · simp [Has]; omega
  refine ⟨hvA.join hvr (by have := e2; omega) (fun y hy => by have := hA y hy; omega), ?_, fun s => ?_, fun y hy => by have := hA y hy; omega, ?_, ?_, ?_, ?_, ?_⟩
  · simp only [sum_app, sum]; omega
  · rw [has_app, has_app, has_app, hrest]
    have hx : Has (x :: B) s ↔ ((x.f0 ≤ s ∧ s < x.f0 + x.f1) ∨ Has B s) := by simp [Has]
    rw [hx]
    have hAs : Has A s → s < x.f0 := by rintro ⟨y, hy, h⟩; have := hA y hy; omega
    have hBs : Has B s → x.f0 + x.f1 < s := by rintro ⟨y, hy, h⟩; have := hB y hy; omega
    constructor
    · rintro (h | h | h)
      · exact ⟨Or.inl h, by have := hAs h; omega⟩
      · exact ⟨Or.inr (Or.inl (by omega)), by omega⟩
      · exact ⟨Or.inr (Or.inr h), by have := hBs h; omega⟩
    · rintro ⟨h | h | h, h'⟩
      · exact Or.inl h
      · exact Or.inr (Or.inl (by omega))
      · exact Or.inr (Or.inr h)
  · intro y hy
    rcases List.mem_append.mp hy with hy | hy
    · unfold rest at hy; split at hy
      · simp at hy; subst hy; simp only; omega
      · cases hy
    · have := hB y hy; omega
  · intro y hy
    rcases List.mem_append.mp hy with hy | hy
    · unfold rest at hy; split at hy
      · simp at hy; subst hy; simp only; omega
      · cases hy
    · have := hB y hy; omega
  · unfold ins
    rw [joinL_id (x := ⟨x.f0, n⟩) (by exact hA)]
    simp only
    congr 1
    unfold rest
    split
    · rename_i c
      simp only [List.cons_append, List.nil_append, joinR]
      rw [if_pos trivial]
      congr 1
      cases x
      simp
      omega
    · rename_i c
      have hx : (⟨x.f0, n⟩ : S42) = x := by cases x; simp at c ⊢; simp at hn; omega
      rw [hx, List.nil_append]
      cases B with
      | nil => rfl
      | cons b B =>
        have := hB b (by simp)
        simp only [joinR]
        rw [if_neg (by omega)]
  · intro y hy
    rcases List.mem_cons.mp hy with rfl | hy
    · omega
    · have := hB y hy; omega
  · unfold rest; split <;> simp

theorem back_l0 (A : List S42) (x : S42) (B : List S42) (n a2 : Int) (hl : (A ++ x :: B).length ≤ 40) (hv : Va (-1) (A ++ x :: B)) (h1 : 1 ≤ n) (h2 : n ≤ 100) (hn : n ≤ x.f1) (ha2 : -9223372036854775808 ≤ a2 ∧ a2 ≤ 9223372036854775807) :
    ∀ (d : Nat) (i : Int), 0 ≤ i → i ≤ n → n - i ≤ d → Et (fun k => retconlaw14_ExtentBack.l0 k (A ++ x :: B) n a2 true x.f0 (A ++ (rest x n ++ B)) i) true := by
  obtain ⟨f1, f2, f3, f4, f5, f6, f7, f8, f9⟩ := left_facts hv h1 hn
  have hx := hv.mem (x := x) (by simp)
  have hlen := len_mid A x B
  have hlm : (A ++ (rest x n ++ B)).length ≤ 100 := by simp at hl ⊢; omega
  have hr : Row x.f0 n := ⟨h1, by omega, by omega⟩
  intro d
  induction d with
  | zero =>
    intro i h0 hi hd
    refine Et.succ ?_
    simp only [retconlaw14_ExtentBack.l0]
    refine Et.neg (by omega) ?_
    have fr := free_ok A (rest x n ++ B) x.f0 n (by omega) f1 hr f4 f5 f6
    rw [f7] at fr
    refine Et.bind fr ?_
    have tk := take_ok A x B x.f0 n (by omega) hv hr f4 f8 (Int.le_refl _) (by omega)
    rw [parts_first, List.append_assoc] at tk
    refine Et.bind tk ?_
    have j2 : ∀ b : Bool, (b = false → ¬ (x.f0 ≤ a2 ∧ a2 < x.f0 + n)) → Et (fun k => retconlaw14_ExtentBack.j2 k (A ++ x :: B) n a2 true (A ++ (rest x n ++ B)) (A ++ x :: B) 0 (A ++ (rest x n ++ B)) 0 b) true := by
      intro b hb
      refine Et.succ ?_
      simp only [retconlaw14_ExtentBack.j2]
      refine Et.pos (by trivial) (Et.pos (by trivial) (Et.bind (same _ _ (by omega)) (Et.pos (by simp) (Et.pos (by trivial) (Et.bind (same _ _ (by omega)) (Et.pos (by simp) ?_))))))
      refine Et.bind (check _ (by omega) (f1.wf (by omega))) (Et.pos (by simp [f1]) ?_)
      refine Et.bind (total _ (by omega) (f1.wf (by omega))) (Et.bind (total _ (by omega) (hv.wf (by omega))) ?_)
      rw [if_pos f1, if_pos hv]
      have s1 := f1.sum_le (by omega)
      refine Et.pos (by rw [wr (by omega)]; exact f2) ?_
      cases b with
      | true => exact Et.pos rfl (Et.ret _)
      | false =>
        refine Et.neg (by simp) (Et.bind (has _ a2 (by omega) (f1.wf (by omega))) (Et.bind (has _ a2 (by omega) (hv.wf (by omega))) (Et.ret' ?_)))
        have := f3 a2
        have hb' := hb rfl
        simp [f1, hv, this, hb']
    rw [wr (x := x.f0 + n) (by omega)]
    refine Et.ite (fun c => ?_) fun c => ?_
    · exact j2 _ (fun h => by have := of_decide_eq_false h; omega)
    · exact j2 _ (fun h => by omega)
  | succ d ih =>
    intro i h0 hi hd
    by_cases c : i < n
    · refine Et.succ ?_
      simp only [retconlaw14_ExtentBack.l0]
      rw [wr (x := x.f0 + i) (by omega)]
      have hin : Has (A ++ x :: B) (x.f0 + i) := ⟨x, by simp, by omega, by omega⟩
      refine Et.pos c (Et.bind (has _ _ (by omega) (hv.wf (by omega))) (Et.pos (by simp [hv, hin]) (Et.bind (has _ _ (by omega) (f1.wf (by omega))) ?_)))
      have hnot : ¬ Has (A ++ (rest x n ++ B)) (x.f0 + i) := by rw [f3]; rintro ⟨_, h⟩; exact h (by omega)
      rw [decide_eq_false (fun h => hnot h.2)]
      refine Et.succ ?_
      simp only [retconlaw14_ExtentBack.j1]
      refine Et.neg (by simp) ?_
      rw [wr (x := i + 1) (by omega)]
      exact ih (i + 1) (by omega) (by omega) (by omega)
    · exact ih i h0 hi (by omega)

theorem ExtentBack : retconlaw14_ExtentBack.Pure := by
  intro l a1 a2 _ _ hw h1 h2
  have hW : Wf l := fun x hx => ⟨wf64 (hw x hx).1, wf64 (hw x hx).2⟩
  have h1' := wf64 h1
  have h2' := wf64 h2
  refine Et.out (f := fun k => retconlaw14_ExtentBack.f k l a1 a2) ?_
  unfold retconlaw14_ExtentBack.f
  obtain ⟨K, hK⟩ := ExtentKnown
  refine Et.bind (Et.of_mono retconlaw14_ExtentKnown.mono hK) ?_
  refine Et.ite (fun c => Et.ret _) fun c => ?_
  have hp : ∃ t, retconkit_Pick.f a1 100 = some t ∧ 0 ≤ t ∧ t < 100 := by
    have q1 := Int.tmod_lt_of_pos a1 (b := 100) (by omega)
    have q2 : -100 < Int.tmod a1 100 := by
      have := Int.lt_tmod_of_pos a1 (b := 100) (by omega)
      omega
    unfold retconkit_Pick.f
    rw [if_neg (by omega), if_neg (by omega)]
    split
    · exact ⟨_, rfl, by rw [wr (by omega)]; omega, by rw [wr (by omega)]; omega⟩
    · exact ⟨_, rfl, by omega, by omega⟩
  obtain ⟨t, ht, ht0, ht1⟩ := hp
  rw [ht]
  simp only [Option.bind_some]
  rw [wr (x := 1 + t) (by omega)]
  by_cases hv : Va (-1) l
  · rcases first l (1 + t) with hf | ⟨A, x, B, rfl, hA, hx⟩
    · refine Et.bind (alloc_full l (1 + t) (by omega) hv (by omega) hf) (Et.neg (by simp) (Et.pos (by trivial) (Et.pos (by simp) (Et.ret' (by simp)))))
    · have al := alloc_ok A x B (1 + t) (by omega) hv (by omega) hA hx
      rw [parts_first, List.append_assoc] at al
      refine Et.bind al (Et.pos (by trivial) ?_)
      exact back_l0 A x B (1 + t) a2 (by omega) hv (by omega) (by omega) hx h2' (1 + t).toNat 0 (by omega) (by omega) (by omega)
  · refine Et.bind (alloc_bad l (1 + t) (by omega) hW (fun h => hv h.1)) (Et.neg (by simp) (Et.pos (by trivial) (Et.pos (by simp) (Et.ret' (by simp)))))
end Go.Proofs.Ytobleaodacnpiaa.Pure
