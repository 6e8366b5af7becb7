import Derived.Test.YtgippbgcmmjnbaaXBfcheckKept
import Derived.Test.YtgippbgcmmjnbaaXBfcheckMissing
import Derived.Test.YtgippbgcmmjnbaaXBgref
import Derived.Test.YtgippbgcmmjnbaaXBgkit
import Derived.Test.YtgippbgcmmjnbaaXe
namespace Go.Proofs.Ytgippbgcmmjnbaa.Th
open Go.RowKit Go.Proofs.Ytgippbgcmmjnbaa.XB Go.Proofs.YtgippbgcmmjnbaaW.PrintWords Go.Proofs.YtgippbgcmmjnbaaW.PrintLast Go.Proofs.YtgippbgcmmjnbaaXe
set_option linter.unusedVariables false

def plB (a n : Int) : Bool := decide (0 < a) && decide (a % 8 = 0) && decide (a ≤ n)
def okL (n : Int) : Int → List S27 → Bool
  | _, [] => true
  | p, x :: r => decide (p < x.f0) && plB x.f0 n && okL n x.f0 r
def mayS (l : List S27) (n : Int) : Int := if n < 0 ∨ n > 500 then 5 else if okL n 0 l = true then 0 else 2
def leB (a : Int) (x : S27) : Bool := decide (x.f0 ≤ a)
def keptS (l : List S27) (a : Int) : List S27 := if okL 500 0 l = true then l.filter (leB a) else []
def placesS (n : Int) : List Int := if 0 ≤ n ∧ n ≤ 500 then check_Places.l (n / 8).toNat else []
def missS (l : List S27) (n : Int) : List Int := if okL 500 0 l = true then check_Missing.keep l (placesS n) else []

theorem rd_mid (A : List S27) (x : S27) (B : List S27) {i : Int} (h : i = (A.length : Int)) : rd_T27 (A ++ x :: B) i = x := by
  subst h
  simp [rd_T27]
theorem len_mid (A : List S27) (x : S27) (B : List S27) : ((A ++ x :: B).length : Int) = (A.length : Int) + 1 + (B.length : Int) := by
  simp
  omega
theorem place_f (a n : Int) : check_place.f a n = some (plB a n) := by
  unfold check_place.f plB
  by_cases h : 0 < a
  · rw [if_pos h, Int.tmod_eq_emod_of_nonneg (by omega)]
    by_cases h2 : a % 8 = 0 <;> simp [h, h2]
  · rw [if_neg h]; simp [h]
theorem length_f (n : Int) : check_length.f n = some (decide (0 ≤ n ∧ n ≤ 500)) := by
  unfold check_length.f
  by_cases h : 0 ≤ n <;> simp [h]
/-- what stands ahead -/
def Pr (A : List S27) (p : Int) : Prop := (A = [] ∧ p = 0) ∨ ∃ A' y, A = A' ++ [y] ∧ p = y.f0 ∧ 0 < p
theorem may_l (B : List S27) : ∀ (A : List S27) (l : List S27) (p n i : Int), l = A ++ B → i = (A.length : Int) → Pr A p →
    Et (fun k => check_May.l0 k l n i) (if okL n p B = true then 0 else 2) := by
  induction B with
  | nil =>
    intro A l p n i hl hi hp
    refine Et.succ ?_
    simp only [check_May.l0]
    simp at hl
    subst hl
    refine Et.neg (by omega) ?_
    simpa [okL] using Et.ret (0 : Int)
  | cons x B ih =>
    intro A l p n i hl hi hp
    have hlen := len_mid A x B
    rw [← hl] at hlen
    refine Et.succ ?_
    simp only [check_May.l0]
    refine Et.pos (by omega) ?_
    rw [hl, rd_mid A x B hi, ← hl, place_f]
    simp only [Option.bind_some]
    have hnext : 0 < x.f0 → Et (fun k => check_May.l0 k l n (i + 1)) (if okL n x.f0 B = true then 0 else 2) := fun h0 => ih (A ++ [x]) l x.f0 n (i + 1) (by simp [hl]) (by simp; omega) (.inr ⟨A, x, rfl, rfl, h0⟩)
    by_cases hx : plB x.f0 n = true
    · have h0 : 0 < x.f0 := by unfold plB at hx; simp at hx; omega
      refine Et.pos hx ?_
      rcases hp with ⟨rfl, rfl⟩ | ⟨A', y, rfl, rfl, hy⟩
      · refine Et.neg (by simp at hi; omega) ?_
        have := hnext h0
        simpa [okL, hx, h0] using this
      · refine Et.pos (by simp at hi; omega) ?_
        rw [hl, show A' ++ [y] ++ x :: B = A' ++ y :: (x :: B) by simp, rd_mid A' y (x :: B) (i := i - 1) (by simp at hi; omega), show A' ++ y :: (x :: B) = A' ++ [y] ++ x :: B by simp, ← hl]
        refine Et.ite (fun h => ?_) (fun h => ?_)
        · have : ¬ y.f0 < x.f0 := by omega
          simpa [okL, this] using Et.ret (2 : Int)
        · have : y.f0 < x.f0 := by omega
          have h2 := hnext h0
          simpa [okL, this, hx] using h2
    · refine Et.neg hx ?_
      simpa [okL, hx] using Et.ret (2 : Int)
theorem may (l : List S27) (n : Int) : Et (fun k => check_May.f k l n) (mayS l n) := by
  unfold check_May.f mayS
  rw [length_f]
  simp only [Option.bind_some]
  by_cases h : 0 ≤ n ∧ n ≤ 500
  · refine Et.pos (by simpa using h) ?_
    rw [if_neg (by omega)]
    exact may_l l [] l 0 n 0 rfl rfl (.inl ⟨rfl, rfl⟩)
  · refine Et.neg (by simpa using h) ?_
    rw [if_pos (by omega)]
    exact Et.ret 5
theorem rmay_l (B : List S27) : ∀ (A : List S27) (l : List S27) (p n i : Int), l = A ++ B → i = (A.length : Int) → l.length ≤ 1000000 → Pr A p →
    Et (fun k => retconref23_May.l0 k l n i) (if okL n p B = true then 0 else 2) := by
  induction B with
  | nil =>
    intro A l p n i hl hi hb hp
    refine Et.succ ?_
    simp only [retconref23_May.l0]
    simp at hl
    subst hl
    refine Et.neg (by omega) ?_
    simpa [okL] using Et.ret (0 : Int)
  | cons x B ih =>
    intro A l p n i hl hi hb hp
    have hlen := len_mid A x B
    rw [← hl] at hlen
    have hnext : 0 < x.f0 → Et (fun k => retconref23_May.l0 k l n (i + 1)) (if okL n x.f0 B = true then 0 else 2) := fun h0 => ih (A ++ [x]) l x.f0 n (i + 1) (by simp [hl]) (by simp; omega) hb (.inr ⟨A, x, rfl, rfl, h0⟩)
    have bad : okL n p (x :: B) = false → Et (fun k => retconref23_May.j2 k l n i true) (if okL n p (x :: B) = true then 0 else 2) := fun h => by
      refine Et.succ ?_
      simp only [retconref23_May.j2, h]
      simpa using Et.ret (2 : Int)
    refine Et.succ ?_
    simp only [retconref23_May.l0]
    refine Et.pos (by omega) (Et.pos (by omega) ?_)
    rw [hl, rd_mid A x B hi, ← hl]
    refine Et.ite (fun h => bad ?_) fun h1 => Et.ite (fun h => bad ?_) fun h2 => ?_
    · have : ¬ 0 < x.f0 := by omega
      simp [okL, plB, this]
    · have : ¬ x.f0 ≤ n := by omega
      simp [okL, plB, this]
    rw [Int.tmod_eq_emod_of_nonneg (by omega)]
    refine Et.ite (fun h3 => ?_) (fun h3 => bad (by simp [okL, plB, h3]))
    have hx : plB x.f0 n = true := by unfold plB; simp; omega
    rcases hp with ⟨rfl, rfl⟩ | ⟨A', y, rfl, rfl, hy⟩
    · refine Et.neg (by simp at hi; omega) ?_
      refine Et.succ ?_
      simp only [retconref23_May.j2]
      refine Et.neg (by simp) ?_
      rw [wr (x := i + 1) (by omega)]
      have h0 : 0 < x.f0 := by omega
      have := hnext h0
      simpa [okL, hx, h0] using this
    · have hi2 : i = A'.length + 1 := by simpa using hi
      rw [wr (x := i - 1) (by omega)]
      refine Et.pos (by omega) (Et.pos (by omega) (Et.pos (by omega) ?_))
      rw [hl, show A' ++ [y] ++ x :: B = A' ++ y :: (x :: B) by simp, rd_mid A' y (x :: B) (i := i - 1) (by omega), show A' ++ y :: (x :: B) = A' ++ [y] ++ x :: B by simp, ← hl]
      by_cases h : y.f0 < x.f0
      · rw [show decide (y.f0 ≥ x.f0) = false from decide_eq_false (by omega)]
        refine Et.succ ?_
        simp only [retconref23_May.j2]
        refine Et.neg (by simp) ?_
        rw [wr (x := i + 1) (by omega)]
        have h2 := hnext (by omega)
        simpa [okL, h, hx] using h2
      · rw [show decide (y.f0 ≥ x.f0) = true from decide_eq_true (by omega)]
        exact bad (by simp [okL, h])
theorem rmay (l : List S27) (n : Int) (hb : l.length ≤ 1000000) : Et (fun k => retconref23_May.f k l n) (mayS l n) := by
  unfold retconref23_May.f mayS
  have good : ¬ (n < 0 ∨ n > 500) → Et (fun k => retconref23_May.j0 k l n false) (if okL n 0 l = true then 0 else 2) := fun h => by
    refine Et.succ ?_
    simp only [retconref23_May.j0]
    exact Et.neg (by simp) (rmay_l l [] l 0 n 0 rfl rfl hb (.inl ⟨rfl, rfl⟩))
  have bad : Et (fun k => retconref23_May.j0 k l n true) 5 := by
    refine Et.succ ?_
    simp only [retconref23_May.j0]
    exact Et.pos (by trivial) (Et.ret 5)
  by_cases h : n < 0
  · simp only [h, true_or, if_true]; exact bad
  · by_cases h2 : n > 500
    · simp only [h, h2, or_true, if_true, if_false, decide_true]; exact bad
    · simp only [h, h2, or_false, if_false, decide_false]
      exact good (by omega)

/-! ### Kept -/
theorem okL_sorted {n : Int} : ∀ {p : Int} {l : List S27}, okL n p l = true → ∀ x ∈ l, p < x.f0
  | _, [], _, x, h => by simp at h
  | p, y :: r, h, x, hx => by
    simp only [okL, Bool.and_eq_true, decide_eq_true_eq] at h
    rcases List.mem_cons.1 hx with rfl | hx
    · exact h.1.1
    · exact Int.lt_trans h.1.1 (okL_sorted h.2 x hx)
/-- the first that is behind: all ahead are not, all from there on are -/
theorem filter_le {n a : Int} : ∀ {p : Int} {l : List S27}, okL n p l = true → ∀ m : Nat, m ≤ l.length → (∀ j : Nat, j < m → (rd_T27 l j).f0 ≤ a) → (∀ j : Nat, m ≤ j → j < l.length → a < (rd_T27 l j).f0) → l.take m = l.filter (leB a)
  | _, [], _, m, hm, _, _ => by simp
  | p, x :: r, h, m, hm, h1, h2 => by
    simp only [okL, Bool.and_eq_true, decide_eq_true_eq] at h
    cases m with
    | zero =>
      have hx : a < x.f0 := by simpa [rd_T27] using h2 0 (by omega) (by simp)
      have : ∀ y ∈ x :: r, leB a y = false := fun y hy => by
        rcases List.mem_cons.1 hy with rfl | hy
        · unfold leB; simp; omega
        · have := okL_sorted h.2 y hy; unfold leB; simp; omega
      rw [List.take_zero, List.filter_eq_nil_iff.2 (fun y hy => by simp [this y hy])]
    | succ m =>
      have hx : x.f0 ≤ a := by simpa [rd_T27] using h1 0 (by omega)
      rw [List.take_succ_cons, List.filter_cons_of_pos (by unfold leB; simpa using hx), filter_le h.2 m (by simpa using hm) (fun j hj => ?_) (fun j hj hj2 => ?_)]
      · have := h1 (j + 1) (by omega); simpa [rd_T27] using this
      · have := h2 (j + 1) (by omega) (by simpa using hj2); simpa [rd_T27] using this
theorem sorted_rd {n : Int} : ∀ {p : Int} {l : List S27}, okL n p l = true → ∀ i j : Nat, i < j → j < l.length → (rd_T27 l i).f0 < (rd_T27 l j).f0
  | _, [], _, i, j, _, h => by simp at h
  | p, x :: r, h, i, j, hij, hj => by
    simp only [okL, Bool.and_eq_true, decide_eq_true_eq] at h
    obtain ⟨j, rfl⟩ : ∃ q, j = q + 1 := ⟨j - 1, by omega⟩
    cases i with
    | zero =>
      have := okL_sorted h.2 (rd_T27 r j) (by simp at hj; simp [rd_T27, hj])
      simpa [rd_T27] using this
    | succ i =>
      have := sorted_rd h.2 i j (by omega) (by simpa using hj)
      simpa [rd_T27] using this
theorem search {n p a : Int} {l : List S27} (hs : okL n p l = true) (d : Nat) : ∀ (i j : Nat), j - i ≤ d → i ≤ j → j ≤ l.length → (∀ q : Nat, q < i → (rd_T27 l q).f0 ≤ a) → (∀ q : Nat, j ≤ q → q < l.length → a < (rd_T27 l q).f0) →
    ∃ m : Nat, m ≤ l.length ∧ Et (fun k => check_Kept.l0 k l a i j) (m : Int) ∧ l.take m = l.filter (leB a) := by
  induction d with
  | zero =>
    intro i j hd hij hj h1 h2
    obtain rfl : i = j := by omega
    refine ⟨i, hj, Et.succ ?_, filter_le hs i hj h1 h2⟩
    simp only [check_Kept.l0]
    exact Et.neg (by omega) (Et.ret _)
  | succ d ih =>
    intro i j hd hij hj h1 h2
    by_cases hlt : i < j
    · have hm : ((i : Int) + j) / 2 = ((i + j) / 2 : Nat) := by omega
      by_cases hx : a < (rd_T27 l ((i + j) / 2 : Nat)).f0
      · obtain ⟨m, hm1, hm2, hm3⟩ := ih i ((i + j) / 2) (by omega) (by omega) (by omega) h1 (fun q hq hq2 => by
          rcases Nat.lt_or_ge ((i + j) / 2) q with h | h
          · exact Int.lt_trans hx (sorted_rd hs _ _ h hq2)
          · rw [show q = (i + j) / 2 by omega]; exact hx)
        refine ⟨m, hm1, Et.succ ?_, hm3⟩
        simp only [check_Kept.l0]
        refine Et.pos (by omega) ?_
        rw [hm]
        exact Et.pos hx hm2
      · obtain ⟨m, hm1, hm2, hm3⟩ := ih ((i + j) / 2 + 1) j (by omega) (by omega) hj (fun q hq => by
          rcases Nat.lt_or_ge q ((i + j) / 2) with h | h
          · have := sorted_rd hs _ _ h (by omega); omega
          · rw [show q = (i + j) / 2 by omega]; omega) h2
        refine ⟨m, hm1, Et.succ ?_, hm3⟩
        simp only [check_Kept.l0]
        refine Et.pos (by omega) ?_
        rw [hm]
        refine Et.neg hx ?_
        simpa using hm2
    · obtain rfl : i = j := by omega
      refine ⟨i, hj, Et.succ ?_, filter_le hs i hj h1 h2⟩
      simp only [check_Kept.l0]
      exact Et.neg (by omega) (Et.ret _)
theorem kept (l : List S27) (a : Int) (hb : l.length ≤ 1000000) : Et (fun k => check_Kept.f k l a) (keptS l a) := by
  unfold check_Kept.f keptS
  refine Et.bind (may l 500) ?_
  unfold mayS
  rw [if_neg (by omega)]
  by_cases h : okL 500 0 l = true
  · rw [if_pos h, if_pos h]
    obtain ⟨m, hm1, hm2, hm3⟩ := search (a := a) h l.length 0 l.length (by omega) (by omega) (Nat.le_refl _) (fun q hq => by omega) (fun q hq hq2 => by omega)
    refine Et.pos rfl (Et.pos (by omega) (Et.bind hm2 ?_))
    unfold slices_Clone.f
    simp only [Int.toNat_natCast, hm3]
    refine Et.pos ?_ (Et.ret _)
    have := List.length_filter_le (leB a) l
    omega
  · rw [if_neg h, if_neg h]
    exact Et.neg (by omega) (Et.ret _)
theorem rkept_l (B : List S27) : ∀ (A : List S27) (l out : List S27) (a i : Int), l = A ++ B → i = (A.length : Int) → l.length ≤ 1000000 → out.length ≤ A.length → Et (fun k => retconref23_Kept.l0 k l a out i) (out ++ B.filter (leB a)) := by
  induction B with
  | nil =>
    intro A l out a i hl hi hb ho
    refine Et.succ ?_
    simp only [retconref23_Kept.l0]
    simp at hl
    subst hl
    refine Et.neg (by omega) ?_
    simpa using Et.ret out
  | cons x B ih =>
    intro A l out a i hl hi hb ho
    have hlen := len_mid A x B
    rw [← hl] at hlen
    refine Et.succ ?_
    simp only [retconref23_Kept.l0]
    refine Et.pos (by omega) (Et.pos (by omega) ?_)
    rw [hl, rd_mid A x B hi, ← hl, wr (x := i + 1) (by omega)]
    refine Et.ite (fun h => ?_) (fun h => ?_)
    · refine Et.pos (by omega) ?_
      have := ih (A ++ [x]) l (out ++ [x]) a (i + 1) (by simp [hl]) (by simp; omega) hb (by simp; omega)
      have hx : leB a x = true := decide_eq_true h
      simpa [List.filter_cons, hx] using this
    · have := ih (A ++ [x]) l out a (i + 1) (by simp [hl]) (by simp; omega) hb (by simp; omega)
      have hx : leB a x = false := decide_eq_false h
      simpa [List.filter_cons, hx] using this
theorem rkept (l : List S27) (a : Int) (hb : l.length ≤ 1000000) : Et (fun k => retconref23_Kept.f k l a) (keptS l a) := by
  unfold retconref23_Kept.f keptS
  refine Et.bind (rmay l 500 hb) ?_
  unfold mayS
  rw [if_neg (by omega)]
  by_cases h : okL 500 0 l = true
  · rw [if_pos h, if_pos h]
    refine Et.pos rfl ?_
    simpa using rkept_l l [] l [] a 0 rfl rfl hb (by simp)
  · rw [if_neg h, if_neg h]
    exact Et.neg (by omega) (Et.ret _)

/-! ### Places, Missing -/
theorem places (n : Int) : check_Places.f n = some (placesS n) := by
  unfold check_Places.f placesS
  split <;> rfl
theorem rplaces_l (d : Nat) : ∀ (m : Nat) (n : Int), 0 ≤ n → n ≤ 500 → m ≤ (n / 8).toNat → (n / 8).toNat - m = d → Et (fun k => retconref23_Places.l0 k n (check_Places.l m) (8 * ((m : Int) + 1))) (check_Places.l (n / 8).toNat) := by
  induction d with
  | zero =>
    intro m n h0 h5 hm hd
    obtain rfl : m = (n / 8).toNat := by omega
    refine Et.succ ?_
    simp only [retconref23_Places.l0]
    refine Et.neg (by omega) ?_
    refine Et.succ ?_
    simp only [retconref23_Places.j1]
    exact Et.neg (by simp) (Et.ret _)
  | succ d ih =>
    intro m n h0 h5 hm hd
    refine Et.succ ?_
    simp only [retconref23_Places.l0]
    refine Et.pos (by omega) ?_
    rw [decide_eq_true (show n ≤ 500 from h5)]
    refine Et.succ ?_
    simp only [retconref23_Places.j1]
    refine Et.pos (by trivial) (Et.pos (by rw [check_Places.l_len]; omega) ?_)
    have := ih (m + 1) n h0 h5 (by omega) (by omega)
    rw [wr (by omega)]
    rw [check_Places.l_succ] at this
    simpa [Int.mul_add] using this
theorem rplaces (n : Int) : Et (fun k => retconref23_Places.f k n) (placesS n) := by
  unfold retconref23_Places.f placesS
  by_cases h : 0 ≤ n ∧ n ≤ 500
  · rw [if_pos h]
    exact rplaces_l _ 0 n h.1 h.2 (by omega) rfl
  · rw [if_neg h]
    refine Et.succ ?_
    simp only [retconref23_Places.l0]
    have stop : Et (fun k => retconref23_Places.j1 k n [] 8 false) [] := by
      refine Et.succ ?_
      simp only [retconref23_Places.j1]
      exact Et.neg (by simp) (Et.ret _)
    refine Et.ite (fun h8 => ?_) (fun h8 => stop)
    rw [decide_eq_false (show ¬ n ≤ 500 by omega)]
    exact stop
theorem rhas_l (B : List S27) : ∀ (A : List S27) (l : List S27) (a i : Int), l = A ++ B → i = (A.length : Int) → l.length ≤ 1000000 → Et (fun k => retconref23_has.l0 k l a i) (check_Missing.hasB B a) := by
  induction B with
  | nil =>
    intro A l a i hl hi hb
    refine Et.succ ?_
    simp only [retconref23_has.l0]
    simp at hl
    subst hl
    exact Et.neg (by omega) (Et.ret _)
  | cons x B ih =>
    intro A l a i hl hi hb
    have hlen := len_mid A x B
    rw [← hl] at hlen
    refine Et.succ ?_
    simp only [retconref23_has.l0]
    refine Et.pos (by omega) (Et.pos (by omega) ?_)
    rw [hl, rd_mid A x B hi, ← hl, wr (x := i + 1) (by omega)]
    refine Et.ite (fun h => ?_) (fun h => ?_)
    · refine Et.ret' ?_
      unfold check_Missing.hasB
      rw [List.any_cons, show (x.f0 == a) = true from beq_iff_eq.2 h, Bool.true_or]
    · have := ih (A ++ [x]) l a (i + 1) (by simp [hl]) (by simp; omega) hb
      unfold check_Missing.hasB at this ⊢
      rw [List.any_cons, show (x.f0 == a) = false from beq_eq_false_iff_ne.2 h, Bool.false_or]
      exact this
theorem rhas (l : List S27) (a : Int) (hb : l.length ≤ 1000000) : Et (fun k => retconref23_has.f k l a) (check_Missing.hasB l a) := rhas_l l [] l a 0 rfl rfl hb
theorem rdi_mid (A : List Int) (x : Int) (B : List Int) {i : Int} (h : i = (A.length : Int)) : rd (A ++ x :: B) i = x := by
  subst h
  simp [rd]
theorem leni_mid (A : List Int) (x : Int) (B : List Int) : ((A ++ x :: B).length : Int) = (A.length : Int) + 1 + (B.length : Int) := by
  simp
  omega
theorem rmiss_l (l : List S27) (hl0 : l.length ≤ 1000000) (B : List Int) : ∀ (A p out : List Int) (i : Int), p = A ++ B → i = (A.length : Int) → p.length ≤ 1000000 → out.length ≤ A.length → Et (fun k => retconref23_Missing.l0 k l p out i) (out ++ check_Missing.keep l B) := by
  induction B with
  | nil =>
    intro A p out i hl hi hb ho
    refine Et.succ ?_
    simp only [retconref23_Missing.l0]
    simp at hl
    subst hl
    refine Et.neg (by omega) ?_
    simpa [check_Missing.keep] using Et.ret out
  | cons x B ih =>
    intro A p out i hl hi hb ho
    have hlen := leni_mid A x B
    rw [← hl] at hlen
    refine Et.succ ?_
    simp only [retconref23_Missing.l0]
    refine Et.pos (by omega) (Et.pos (by omega) ?_)
    rw [hl, rdi_mid A x B hi, ← hl, wr (x := i + 1) (by omega)]
    refine Et.bind (rhas l x hl0) ?_
    cases hx : check_Missing.hasB l x
    · refine Et.neg (by simp) (Et.pos (by omega) ?_)
      have := ih (A ++ [x]) p (out ++ [x]) (i + 1) (by simp [hl]) (by simp; omega) hb (by simp; omega)
      simpa [check_Missing.keep, List.filter_cons, hx] using this
    · refine Et.pos (by trivial) ?_
      have := ih (A ++ [x]) p out (i + 1) (by simp [hl]) (by simp; omega) hb (by simp; omega)
      simpa [check_Missing.keep, List.filter_cons, hx] using this
theorem placesS_len (n : Int) : (placesS n).length ≤ 63 := by
  unfold placesS
  split
  · rw [check_Places.l_len]; omega
  · simp
theorem rmiss (l : List S27) (n : Int) (hb : l.length ≤ 1000000) : Et (fun k => retconref23_Missing.f k l n) (missS l n) := by
  unfold retconref23_Missing.f missS
  refine Et.bind (rmay l 500 hb) ?_
  unfold mayS
  rw [if_neg (by omega)]
  by_cases h : okL 500 0 l = true
  · rw [if_pos h, if_pos h]
    refine Et.pos rfl (Et.bind (rplaces n) ?_)
    have := placesS_len n
    simpa using rmiss_l l hb (placesS n) [] (placesS n) [] 0 rfl rfl (by omega) (by simp)
  · rw [if_neg h, if_neg h]
    exact Et.neg (by omega) (Et.ret _)
theorem miss (l : List S27) (n : Int) : Et (fun k => check_Missing.f k l n) (missS l n) := by
  have hm : mayS l 500 = if okL 500 0 l = true then 0 else 2 := by unfold mayS; rw [if_neg (by omega)]
  unfold check_Missing.f
  refine Et.bind (may l 500) ?_
  simp only [places, Option.bind_some, hm, missS]
  by_cases h : okL 500 0 l = true
  · simp only [h, if_true]
    exact Et.ret _
  · have h2 : okL 500 0 l = false := by simpa using h
    rw [h2]
    exact Et.ret _

/-! ### the kit -/
theorem sameInts_l (B : List Int) : ∀ (A l : List Int) (i : Int), l = A ++ B → i = (A.length : Int) → l.length ≤ 1000000 → Et (fun k => retconkit_SameInts.l0 k l l i) true := by
  induction B with
  | nil =>
    intro A l i hl hi hb
    refine Et.succ ?_
    simp only [retconkit_SameInts.l0]
    simp at hl
    subst hl
    exact Et.neg (by omega) (Et.ret _)
  | cons x B ih =>
    intro A l i hl hi hb
    have hlen := leni_mid A x B
    rw [← hl] at hlen
    refine Et.succ ?_
    simp only [retconkit_SameInts.l0]
    refine Et.pos (by omega) (Et.pos (by omega) (Et.pos (by omega) (Et.pos (by trivial) ?_)))
    rw [wr (x := i + 1) (by omega)]
    exact ih (A ++ [x]) l (i + 1) (by simp [hl]) (by simp; omega) hb
theorem sameInts (l : List Int) (hb : l.length ≤ 1000000) : Et (fun k => retconkit_SameInts.f k l l) true := by
  unfold retconkit_SameInts.f
  exact Et.pos rfl (sameInts_l l [] l 0 rfl rfl hb)
theorem sameMarks_l (B : List S27) : ∀ (A l : List S27) (i : Int), l = A ++ B → i = (A.length : Int) → l.length ≤ 1000000 → Et (fun k => retconkit_SameMarks.l0 k l l i) true := by
  induction B with
  | nil =>
    intro A l i hl hi hb
    refine Et.succ ?_
    simp only [retconkit_SameMarks.l0]
    simp at hl
    subst hl
    exact Et.neg (by omega) (Et.ret _)
  | cons x B ih =>
    intro A l i hl hi hb
    have hlen := len_mid A x B
    rw [← hl] at hlen
    refine Et.succ ?_
    simp only [retconkit_SameMarks.l0]
    refine Et.pos (by omega) (Et.pos (by omega) (Et.pos (by omega) ?_))
    simp only [beq_self_eq_true, Bool.not_true, Bool.false_or, Bool.false_eq_true, if_false]
    rw [wr (x := i + 1) (by omega)]
    exact ih (A ++ [x]) l (i + 1) (by simp [hl]) (by simp; omega) hb
theorem sameMarks (l : List S27) (hb : l.length ≤ 1000000) : Et (fun k => retconkit_SameMarks.f k l l) true := by
  unfold retconkit_SameMarks.f
  exact Et.pos rfl (sameMarks_l l [] l 0 rfl rfl hb)
theorem over_l (d : Nat) : ∀ (l : List S27) (i : Int), 0 ≤ i → (l.length : Int) - i = d → l.length ≤ 1000000 → ∃ r, Et (fun k => retconkit_OverMarks.l0 k l i) r := by
  induction d with
  | zero =>
    intro l i h0 hd hb
    refine ⟨l, Et.succ ?_⟩
    simp only [retconkit_OverMarks.l0]
    exact Et.neg (by omega) (Et.ret _)
  | succ d ih =>
    intro l i h0 hd hb
    obtain ⟨r, hr⟩ := ih (l.set i.toNat ⟨-7, ⟨0, 0, 0, 0, 0, 0, 0, 0, 0, 0, 0, 0, 0, 0, 0, 0, 0, 0, 0, 0, 0, 0, 0, 0, 0, 0, 0, 0, 0, 0, 0, 0⟩⟩) (i + 1) (by omega) (by simp; omega) (by simpa using hb)
    refine ⟨r, Et.succ ?_⟩
    simp only [retconkit_OverMarks.l0]
    refine Et.pos (by omega) (Et.pos (by omega) ?_)
    rw [wr (x := i + 1) (by omega)]
    exact hr
theorem over (l : List S27) (hb : l.length ≤ 1000000) : ∃ r, Et (fun k => retconkit_OverMarks.f k l) r := over_l l.length l 0 (by omega) (by omega) hb
theorem copy (l : List S27) (hb : l.length ≤ 1000000) : retconkit_CopyMarks.f l = some l := by
  unfold retconkit_CopyMarks.f
  simp only [Option.bind_some, List.length_nil, Nat.zero_add, List.nil_append]
  rw [if_pos (by omega)]
end Go.Proofs.Ytgippbgcmmjnbaa.Th
