import Derived.Test.YtobleaodacnpiaaXEfretconlaw14ExtentOrder
import Derived.Test.YtobleaodacnpiaaPureExtentKnown
import Derived.Test.YtobleaodacnpiaaTh5
namespace Go.Proofs.Ytobleaodacnpiaa.Pure
open Go.RowKit Go.Proofs.Ytobleaodacnpiaa.XE Go.Proofs.YtobleaodacnpiaaW.PrintWords Go.Proofs.YtobleaodacnpiaaW.PrintLast Go.Proofs.YtobleaodacnpiaaXe Go.Proofs.Ytobleaodacnpiaa.Th
open Go.Proofs.YtobleaodacnpiaaW.PrintMore
set_option linter.unusedVariables false

def bit (a i : Int) : Prop := Int.tmod (shr .u64 a i) 2 = 1
instance (a i : Int) : Decidable (bit a i) := inferInstanceAs (Decidable (_ = _))

theorem order_l1 (a0 many : Int) (a : List S42) (hv : Va (-1) a) (hl : a.length ≤ 60) (hm : sum a = many) (hs : ∀ s, Has a s ↔ (0 ≤ s ∧ s < 60 ∧ bit a0 s)) :
    ∀ (d : Nat) (i : Int), 0 ≤ i → i ≤ 60 → 60 - i ≤ d → Et (fun k => retconlaw14_ExtentOrder.l1 k a0 true a a many i) true := by
  intro d
  induction d with
  | zero =>
    intro i h0 h1 h2
    refine Et.succ ?_
    simp only [retconlaw14_ExtentOrder.l1]
    refine Et.neg (by omega) (Et.pos (by trivial) (Et.bind (same a a (by omega)) (Et.pos (by simp) ?_)))
    refine Et.bind (check a (by omega) (hv.wf (by omega))) (Et.pos (by simp [hv]) ?_)
    refine Et.bind (total a (by omega) (hv.wf (by omega))) (Et.ret' ?_)
    simp [hv, hm]
  | succ d ih =>
    intro i h0 h1 h2
    by_cases hi : i < 60
    · refine Et.succ ?_
      simp only [retconlaw14_ExtentOrder.l1]
      refine Et.pos hi (Et.bind (has a i (by omega) (hv.wf (by omega))) (Et.pos h0 (Et.neg ?_ ?_)))
      · have : (Va (-1) a ∧ Has a i) ↔ (Int.tmod (shr .u64 a0 i) 2) = 1 := by rw [hs]; exact ⟨fun h => h.2.2.2, fun h => ⟨hv, h0, hi, h⟩⟩
        simp [this]
        rw [Bool.eq_iff_iff]
        simp
      · rw [wr (x := i + 1) (by omega)]
        exact ih (i + 1) (by omega) (by omega) (by omega)
    · exact ih i h0 h1 (by omega)
theorem order_l0 (a0 : Int) : ∀ (d : Nat) (i many : Int) (a b : List S42), 0 ≤ i → i ≤ 60 → 60 - i ≤ d → Va (-1) a → Va (-1) b → a.length ≤ i → b.length ≤ i → sum a = many →
    (∀ s, Has a s ↔ (0 ≤ s ∧ s < i ∧ bit a0 s)) → (∀ s, Has b s ↔ (60 - i ≤ s ∧ s < 60 ∧ bit a0 s)) → Et (fun k => retconlaw14_ExtentOrder.l0 k a0 true a b many i) true := by
  intro d
  induction d with
  | zero =>
    intro i many a b h0 h1 h2 va vb la lb hm ha hb
    obtain rfl : i = 60 := by omega
    have hab : a = b := uniq va vb fun s => by rw [ha, hb]; constructor <;> (rintro ⟨h, h', h''⟩; exact ⟨by omega, by omega, h''⟩)
    subst hab
    refine Et.succ ?_
    simp only [retconlaw14_ExtentOrder.l0]
    exact Et.neg (by omega) (order_l1 a0 many a va (by omega) hm ha 60 0 (by omega) (by omega) (by omega))
  | succ d ih =>
    intro i many a b h0 h1 h2 va vb la lb hm ha hb
    by_cases hi : i < 60
    · have hj2 : ∀ (a' : List S42) (many' : Int), Va (-1) a' → a'.length ≤ i + 1 → sum a' = many' → (∀ s, Has a' s ↔ (0 ≤ s ∧ s < i + 1 ∧ bit a0 s)) →
          Et (fun k => retconlaw14_ExtentOrder.j2 k a0 true a' b many' i (wrap64 (59 - i))) true := by
        intro a' many' va' la' hm' ha'
        rw [wr (x := 59 - i) (by omega)]
        refine Et.succ ?_
        simp only [retconlaw14_ExtentOrder.j2]
        refine Et.pos (by omega) (Et.ite (fun c => ?_) fun c => ?_)
        · obtain ⟨b', e1, e2, e3, e4, e5⟩ := free1 (l := b) (s := 59 - i) (by omega) vb (by omega) (by omega) (fun h => by have := (hb _).mp h; omega)
          refine Et.bind e1 (Et.pos (by trivial) ?_)
          rw [wr (x := i + 1) (by omega)]
          refine ih (i + 1) many' a' b' (by omega) (by omega) (by omega) va' e2 la' (by omega) hm' ha' fun s => ?_
          rw [e5, hb]
          constructor
          · rintro (⟨h, h', h''⟩ | rfl)
            · exact ⟨by omega, h', h''⟩
            · exact ⟨by omega, by omega, c⟩
          · rintro ⟨h, h', h''⟩
            by_cases hs : s = 59 - i
            · exact Or.inr hs
            · exact Or.inl ⟨by omega, h', h''⟩
        · rw [wr (x := i + 1) (by omega)]
          refine ih (i + 1) many' a' b (by omega) (by omega) (by omega) va' vb la' (by omega) hm' ha' fun s => ?_
          rw [hb]
          constructor
          · rintro ⟨h, h', h''⟩
            exact ⟨by omega, h', h''⟩
          · rintro ⟨h, h', h''⟩
            by_cases hs : s = 59 - i
            · subst hs; exact absurd h'' c
            · exact ⟨by omega, h', h''⟩
      refine Et.succ ?_
      simp only [retconlaw14_ExtentOrder.l0]
      refine Et.pos hi (Et.pos h0 (Et.ite (fun c => ?_) fun c => ?_))
      · obtain ⟨a', e1, e2, e3, e4, e5⟩ := free1 (l := a) (s := i) (by omega) va (by omega) (by omega) (fun h => by have := (ha _).mp h; omega)
        refine Et.bind e1 (Et.bind (free1_there (l := a') (s := i) (by omega) e2 h0 (by omega) ((e5 i).mpr (Or.inr rfl))) (Et.pos (by trivial) ?_))
        refine Et.succ ?_
        simp only [retconlaw14_ExtentOrder.j1]
        refine Et.neg (by decide) ?_
        have hmb := e2.sum_le (by omega)
        rw [wr (x := many + 1) (by omega)]
        refine hj2 a' (many + 1) e2 (by omega) (by omega) fun s => ?_
        rw [e5, ha]
        constructor
        · rintro (⟨h, h', h''⟩ | rfl)
          · exact ⟨h, by omega, h''⟩
          · exact ⟨by omega, by omega, c⟩
        · rintro ⟨h, h', h''⟩
          by_cases hs : s = i
          · exact Or.inr hs
          · exact Or.inl ⟨h, by omega, h''⟩
      · refine hj2 a many va (by omega) hm fun s => ?_
        rw [ha]
        constructor
        · rintro ⟨h, h', h''⟩
          exact ⟨h, by omega, h''⟩
        · rintro ⟨h, h', h''⟩
          by_cases hs : s = i
          · subst hs; exact absurd h'' c
          · exact ⟨h, by omega, h''⟩
    · exact ih i many a b h0 h1 (by omega) va vb la lb hm ha hb

theorem ExtentOrder : retconlaw14_ExtentOrder.Pure := by
  intro a0 _
  refine Et.out (f := fun k => retconlaw14_ExtentOrder.f k a0) ?_
  unfold retconlaw14_ExtentOrder.f
  obtain ⟨K, hK⟩ := ExtentKnown
  refine Et.bind (Et.of_mono retconlaw14_ExtentKnown.mono hK) ?_
  refine order_l0 a0 60 0 0 [] [] (by omega) (by omega) (by omega) trivial trivial (by simp) (by simp) rfl (fun s => ?_) fun s => ?_
  · simp [Has]; omega
  · simp [Has]; omega
end Go.Proofs.Ytobleaodacnpiaa.Pure
