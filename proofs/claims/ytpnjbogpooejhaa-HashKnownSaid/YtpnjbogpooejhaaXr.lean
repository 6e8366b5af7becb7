import Derived.Test.YtpnjbogpooejhaaWWords
import Derived.Test.YtpnjbogpooejhaaWSized
import Derived.Deep.Slices
import Derived.ChangeArms
import Derived.ChangeSame
import Derived.Deep.Strs
import Derived.Lib.SmallJoins
import Derived.SizedLaws
/-! A law's parameter that is a slice of any kind of element, opened into a list: for the rows of xprint. -/
namespace Go.Proofs.YtpnjbogpooejhaaXr
open Go.ChangeShapes Go.WideShapes Go.Proofs.YtpnjbogpooejhaaW.PrintWords
variable {H : Type} {enc : TypeId × Value → H} {P : Program} {w : World} {base : Nat} {spare : Nat → Bool} {held : Bool}

theorem list_of {α : Type} (Q : Nat → α → Prop) (n : Nat) (h : ∀ i, i < n → ∃ a, Q i a) : ∃ l : List α, l.length = n ∧ ∀ i a, l[i]? = some a → Q i a := by
  induction n with
  | zero => exact ⟨[], rfl, fun i a hi => by simp at hi⟩
  | succ n ih =>
    obtain ⟨l, hl, hq⟩ := ih fun i hi => h i (by omega)
    obtain ⟨a, ha⟩ := h n (by omega)
    refine ⟨l ++ [a], by simp [hl], fun i b hi => ?_⟩
    by_cases hin : i < n
    · rw [List.getElem?_append_left (by omega)] at hi
      exact hq i b hi
    · have : i < (l ++ [a]).length := (List.getElem?_eq_some_iff.mp hi).1
      simp at this
      have e : i = n := by omega
      subst e
      rw [List.getElem?_append_right (by omega)] at hi
      simp [hl] at hi
      subst hi
      exact ha

/-- A slice of elements of the kind K, each with what its own reading tells (wf). -/
theorem open_row {α : Type} (K : Kd α) (wf : α → Prop) {t e : TypeId} {A : Option Addr} {len cap : Nat} {d : DataW H} {ps : List MemPlace}
    (E : ∀ n cs y, DataW.trod enc P w base spare held n e cs = some y → ∃ a, K.K w a cs ∧ wf a)
    (hu : P.underlying t = some (.slice e)) (hs : P.cellsOf e = K.sz)
    (h : DataW.Trod enc P w base spare held t (.slice A len cap) d ps) :
    ∃ l : List α, Kd.C K w A l.length l ∧ l.length = len ∧ len ≤ cap ∧ cap ≤ maxLen ∧ ∀ x ∈ l, wf x := by
  obtain ⟨fuel, hf⟩ := h
  rcases DataW.trod_slice hu hf with ⟨hcs, _⟩ | ⟨a, len', cap', elems, rest, n, _, hcs, _, _, hl, hm, hlen, hel, _, _⟩
  · simp [Value.cells] at hcs
    obtain ⟨rfl, rfl, rfl⟩ := hcs
    exact ⟨[], ⟨rfl, by simp, fun h => absurd h (by simp)⟩, rfl, Nat.le_refl _, Nat.zero_le _, fun x hx => by simp at hx⟩
  · simp [Value.cells] at hcs
    obtain ⟨rfl, rfl, rfl⟩ := hcs
    have each : ∀ i, i < len → ∃ x : α, (∃ cs, w.cells? base (a.add (i * P.cellsOf e)) (P.cellsOf e) = some cs ∧ K.K w x cs) ∧ wf x := by
      intro i hi
      have h1 := hel i hi
      rw [List.getElem?_eq_getElem (by omega)] at h1
      obtain ⟨cs, h2, h3⟩ := Option.bind_eq_some_iff.1 h1
      obtain ⟨x, h4, h5⟩ := E n cs _ h3
      exact ⟨x, ⟨cs, h2, h4⟩, h5⟩
    obtain ⟨l, hl1, hq⟩ := list_of _ _ each
    refine ⟨l, ⟨rfl, ?_, fun _ => ⟨a, rfl, fun j p hj => ?_⟩⟩, hl1, hl, hm, fun x hx => ?_⟩
    · rw [hl1]
      have : (maxLen : Nat) ≤ 9223372036854775807 := by decide
      omega
    · obtain ⟨⟨cs, h2, h4⟩, _⟩ := hq j p hj
      obtain ⟨_, h6, h7⟩ := World.cells?_some h2
      have h8 := K.K_len h4
      refine ⟨cs, h8, h4, fun i u hi => ?_⟩
      have h9 : i < cs.length := (List.getElem?_eq_some_iff.mp hi).1
      have h10 := h7 i (by rw [← h6]; exact h9)
      rw [hi] at h10
      rw [← hs, ← h10, Addr.add_add]
    · obtain ⟨i, hi, rfl⟩ := List.mem_iff_getElem.mp hx
      exact (hq i _ (List.getElem?_eq_getElem hi)).2

/-- Such a slice is no longer than its weight allows. -/
theorem sized_row {t e : TypeId} {a : Option Addr} {len cap : Nat} {d : DataW H} {ps : List MemPlace} {ts : List TypeId} {ds : List (DataW H)} {j : Nat}
    (hsz : (DataW.weightsEach P ts ds).all (· ≤ reachBytes) = true) (ht : ts[j]? = some t) (hd : ds[j]? = some d) (hu : P.underlying t = some (.slice e)) {B : Nat} (hB : P.bytesOf e = B)
    (h : DataW.Trod enc P w base spare held t (.slice a len cap) d ps) : len * B ≤ 140737488351232 := by
  obtain ⟨fuel, hf⟩ := h
  rcases DataW.trod_slice hu hf with ⟨hcs, _⟩ | ⟨a, len', cap', elems, rest, n, _, hcs, hx, _, hl, hm, hlen, hel, _, _⟩
  · simp [Value.cells] at hcs
    obtain ⟨rfl, rfl, rfl⟩ := hcs
    simp
  · simp [Value.cells] at hcs
    obtain ⟨rfl, rfl, rfl⟩ := hcs
    obtain ⟨hx, _⟩ := Prod.mk.inj hx
    subst hx
    have z := sized_slice hsz ht hd hu
    rw [hB] at z
    simp only [List.length_map] at z
    exact Nat.le_trans (Nat.mul_le_mul_right _ (by omega)) z

theorem el_int {K : IntKind} {t : TypeId} (hu : P.underlying t = some (.int K)) {n : Nat} {cs : List Value} {y : DataW H × List MemPlace} (h : DataW.trod enc P w base spare held n t cs = some y) : ∃ a, cs = [.int K a] ∧ (Lit.int K a).wf = true := by
  obtain ⟨a, h1, _, h2⟩ := DataW.trod_int hu h
  exact ⟨a, h1, h2⟩
theorem el_bool {t : TypeId} (hu : P.underlying t = some .bool) {n : Nat} {cs : List Value} {y : DataW H × List MemPlace} (h : DataW.trod enc P w base spare held n t cs = some y) : ∃ a, cs = [.bool a] := by
  obtain ⟨a, h1, _⟩ := DataW.trod_bool hu h
  exact ⟨a, h1⟩
/-- The cells of a record whose field i is one cell long, field by field. -/
theorem fields_one {t : TypeId} {fs : Array Field} {n : Nat} {cs : List Value} {y : DataW H × List MemPlace} (hu : P.underlying t = some (.struct fs)) (h : DataW.trod enc P w base spare held n t cs = some y) :
    cs.length = P.cellsOf t ∧ ∀ (i : Nat) (f : Field), fs[i]? = some f → ∃ m z, DataW.trod enc P w base spare held m f.type ((cs.drop f.offset).take (P.cellsOf f.type)) = some z := by
  obtain ⟨xs, m, _, _, hl, hlen, hf⟩ := DataW.trod_struct hu h
  refine ⟨hl, fun i f hi => ?_⟩
  have hi' : i < fs.size := by
    rcases Nat.lt_or_ge i fs.size with h0 | h0
    · exact h0
    · rw [Array.getElem?_eq_none h0] at hi; cases hi
  refine ⟨m, xs[i]'(by omega), ?_⟩
  have := hf i f hi
  rw [this]
  simp
/-- An array of whole numbers, a cell each. -/
theorem el_arr {K : IntKind} {t e : TypeId} {n : Nat} (hu : P.underlying t = some (.array n e)) (he : P.underlying e = some (.int K)) (hc : P.cellsOf e = 1) (ht : P.cellsOf t = n) {m : Nat} {cs : List Value} {y : DataW H × List MemPlace} (h : DataW.trod enc P w base spare held m t cs = some y) :
    ∃ l : List Int, l.length = n ∧ cs = l.map (Value.int K) ∧ ∀ x ∈ l, (Lit.int K x).wf = true := by
  obtain ⟨xs, m, _, _, hl, hlen, hf⟩ := DataW.trod_array hu h
  rw [ht] at hl
  obtain ⟨l, h1, h2⟩ := list_of (fun i a => (cs.drop i).take 1 = [.int K a] ∧ (Lit.int K a).wf = true) n fun i hi => by
    have := hf i hi
    rw [hc, Nat.mul_one, List.getElem?_eq_getElem (by omega)] at this
    obtain ⟨a, h3, _, h4⟩ := DataW.trod_int he this
    exact ⟨a, h3, h4⟩
  refine ⟨l, h1, ?_, fun x hx => ?_⟩
  · apply List.ext_getElem?
    intro i
    rcases Nat.lt_or_ge i n with hi | hi
    · have h3 := (h2 i l[i] (List.getElem?_eq_getElem (by omega))).1
      have h4 : (cs.drop i)[0]? = some (.int K l[i]) := by
        have := congrArg (fun q => q[0]?) h3
        simpa [List.getElem?_take] using this
      rw [List.getElem?_drop, Nat.add_zero] at h4
      rw [h4, List.getElem?_map, List.getElem?_eq_getElem (by omega)]; rfl
    · rw [List.getElem?_eq_none (by omega), List.getElem?_eq_none (by simp; omega)]
  · obtain ⟨i, hi, rfl⟩ := List.mem_iff_getElem.mp hx
    exact (h2 i _ (List.getElem?_eq_getElem hi)).2
/-- The cells of a record, part by part. -/
theorem cut_cells {cs : List Value} {n : Nat} (k : Nat) (hl : cs.length = k + n) : cs = cs.take k ++ (cs.drop k).take n := by
  rw [List.take_of_length_le (l := cs.drop k) (by simp; omega), List.take_append_drop]
theorem okWide_array {r : Reach} {n : Nat} {t e : TypeId} {v : Value} (ht : P.underlying t = some (.array n e)) (h : Value.okWide P w r base t v) : ∃ cs, v = .agg cs ∧ cs.size = P.cellsOf t := by
  simp only [Value.okWide, ht] at h
  obtain ⟨cs, h1, h2, _⟩ := h
  exact ⟨cs, h1, h2⟩
/-- An element that is itself a slice. -/
theorem el_slice {α : Type} (K : Kd α) (wf : α → Prop) {t e : TypeId} (E : ∀ n cs y, DataW.trod enc P w base spare held n e cs = some y → ∃ a, K.K w a cs ∧ wf a)
    (hu : P.underlying t = some (.slice e)) (hs : P.cellsOf e = K.sz) {n : Nat} {cs : List Value} {y : DataW H × List MemPlace} (h : DataW.trod enc P w base spare held n t cs = some y) : ∃ l : List α, (Kd.slice e K).K w l cs ∧ ∀ x ∈ l, wf x := by
  obtain ⟨A, len, cap, rfl⟩ : ∃ A len cap, cs = [.slice A len cap] := by
    rcases DataW.trod_slice hu h with ⟨hcs, _⟩ | ⟨a, len', cap', elems, rest, n, _, hcs, _⟩
    · exact ⟨_, _, _, hcs⟩
    · exact ⟨_, _, _, hcs⟩
  obtain ⟨l, h1, rfl, h3, _, h5⟩ := open_row K wf (A := A) (len := len) (cap := cap) (d := y.1) (ps := y.2) E hu hs ⟨n, h⟩
  exact ⟨l, ⟨A, cap, rfl, h3, h1⟩, h5⟩
end Go.Proofs.YtpnjbogpooejhaaXr
