import Derived.Test.YtejfocliopbocaaXs
import Derived.Maps.Keyed
import Derived.Test.YtejfocliopbocaaXD1
namespace Go.Proofs.Ytejfocliopbocaa.D
open Go.RowKit Go.Proofs.YtejfocliopbocaaW.PrintWords Go.Proofs.YtejfocliopbocaaXs
set_option linter.unusedVariables false
set_option linter.unusedSimpArgs false
/-! a map from whole numbers to sectors -/
def s64 : List Int := List.replicate 64 0
def u8c (l : List Int) : List Value := l.map (Value.int .u8)
structure Ent where
  n : Int
  b : List Int
  born : Nat
def Ent.raw (x : Ent) : MapEntry := { key := .int .i64 x.n, val := .agg (u8c x.b).toArray, born := x.born }
def rawM (m : List Ent) : Array MapEntry := (m.map Ent.raw).toArray
def look : List Ent → Int → List Int
  | [], _ => s64
  | x :: m, k => if x.n = k then x.b else look m k
def hasM : List Ent → Int → Bool
  | [], _ => false
  | x :: m, k => if x.n = k then true else hasM m k
def setM : List Ent → Int → List Int → List Ent
  | [], _, _ => []
  | x :: m, k, b => if x.n = k then ⟨k, b, x.born⟩ :: m else x :: setM m k b
def putM (m : List Ent) (k : Int) (b : List Int) (clock : Nat) : List Ent := if hasM m k then setM m k b else m ++ [⟨k, b, clock⟩]
theorem look_set : ∀ (m : List Ent) (k j : Int) (b : List Int), hasM m k = true → look (setM m k b) j = if k = j then b else look m j
  | [], k, j, b, h => by simp [hasM] at h
  | x :: m, k, j, b, h => by
    unfold setM hasM at *
    by_cases h1 : x.n = k
    · subst h1
      rw [if_pos rfl]
      simp only [look]
      by_cases h2 : x.n = j
      · rw [if_pos h2, if_pos h2]
      · rw [if_neg h2, if_neg h2, if_neg h2]
    · rw [if_neg h1] at h ⊢
      simp only [look]
      rw [look_set m k j b h]
      by_cases h2 : x.n = j
      · rw [if_pos h2, if_neg (by omega)]
        rw [if_pos h2]
      · rw [if_neg h2, if_neg h2]
theorem look_push : ∀ (m : List Ent) (k j : Int) (b : List Int) (c : Nat), hasM m k = false → look (m ++ [⟨k, b, c⟩]) j = if k = j then b else look m j
  | [], k, j, b, c, _ => by simp [look]
  | x :: m, k, j, b, c, h => by
    unfold hasM at h
    by_cases h1 : x.n = k
    · rw [if_pos h1] at h; cases h
    · rw [if_neg h1] at h
      rw [List.cons_append]
      simp only [look]
      rw [look_push m k j b c h]
      by_cases h2 : x.n = j
      · rw [if_pos h2, if_pos h2, if_neg (by omega)]
      · rw [if_neg h2, if_neg h2]
theorem look_put (m : List Ent) (k j : Int) (b : List Int) (c : Nat) : look (putM m k b c) j = if k = j then b else look m j := by
  unfold putM
  by_cases h : hasM m k = true
  · rw [if_pos h]; exact look_set m k j b h
  · rw [if_neg h]; exact look_push m k j b c (by simpa using h)
/-- which entry -/
def idxM : List Ent → Int → Nat → Option (Nat × List Int)
  | [], _, _ => none
  | x :: m, k, i => if x.n = k then some (i, x.b) else idxM m k (i + 1)
theorem find_raw (k : Int) : ∀ (m : List Ent) (i : Nat), Instr.findNow (.int .i64) (.int .i64 k) (m.map Ent.raw) i = some ((idxM m k i).map fun p => (p.1, .agg (u8c p.2).toArray))
  | [], i => rfl
  | x :: m, i => by
    simp only [List.map_cons, Instr.findNow, Ent.raw, Instr.sameNow, if_true, idxM]
    by_cases h : x.n = k
    · rw [if_pos h, h]
      simp
    · rw [if_neg h, show (k == x.n) = false from by simpa using fun e => h e.symm]
      exact find_raw k m (i + 1)
theorem idx_none : ∀ (m : List Ent) (k : Int) (i : Nat), idxM m k i = none ↔ hasM m k = false
  | [], _, _ => by simp [idxM, hasM]
  | x :: m, k, i => by
    unfold idxM hasM
    by_cases h : x.n = k
    · simp [h]
    · rw [if_neg h, if_neg h]; exact idx_none m k (i + 1)
theorem idx_look : ∀ (m : List Ent) (k : Int) (i : Nat) (p : Nat × List Int), idxM m k i = some p → p.2 = look m k ∧ i ≤ p.1 ∧ m.set (p.1 - i) ⟨k, p.2, ((m[p.1 - i]?).map (·.born)).getD 0⟩ = m
  | [], _, _, _, h => by simp [idxM] at h
  | x :: m, k, i, p, h => by
    unfold idxM at h
    unfold look
    by_cases hk : x.n = k
    · rw [if_pos hk] at h ⊢
      cases h
      simp [← hk]
    · rw [if_neg hk] at h ⊢
      obtain ⟨h1, h2, h3⟩ := idx_look m k (i + 1) p h
      refine ⟨h1, by omega, ?_⟩
      rw [show p.1 - i = (p.1 - (i + 1)) + 1 by omega]
      simp only [List.set_cons_succ, List.getElem?_cons_succ]
      rw [h3]
theorem look_none : ∀ (m : List Ent) (k : Int), hasM m k = false → look m k = s64
  | [], _, _ => rfl
  | x :: m, k, h => by
    unfold hasM at h
    unfold look
    by_cases hk : x.n = k
    · rw [if_pos hk] at h; cases h
    · rw [if_neg hk] at h ⊢; exact look_none m k h
theorem has_idx (m : List Ent) (k : Int) (i : Nat) (h : hasM m k = true) : ∃ p, idxM m k i = some p := by
  cases e : idxM m k i with
  | none => rw [(idx_none m k i).1 e] at h; cases h
  | some p => exact ⟨p, rfl⟩
theorem set_raw : ∀ (m : List Ent) (k : Int) (b : List Int) (i : Nat) (p : Nat × List Int), idxM m k i = some p → (m.map Ent.raw).modify (p.1 - i) (fun e => { e with key := .int .i64 k, val := .agg (u8c b).toArray }) = (setM m k b).map Ent.raw ∧ ((m.map Ent.raw)[p.1 - i]?).map (·.key) = some (.int .i64 k) ∧ i ≤ p.1
  | [], _, _, _, _, h => by simp [idxM] at h
  | x :: m, k, b, i, p, h => by
    unfold idxM at h
    unfold setM
    by_cases hk : x.n = k
    · rw [if_pos hk] at h ⊢
      cases h
      simp [Ent.raw, hk]
    · rw [if_neg hk] at h ⊢
      obtain ⟨h1, h2, h3⟩ := set_raw m k b (i + 1) p h
      rw [show p.1 - i = (p.1 - (i + 1)) + 1 by omega]
      refine ⟨?_, ?_, by omega⟩
      · simp only [List.map_cons, List.modify_succ_cons, h1]
      · simpa using h2
theorem check_int (b : Bool) (n : Nat) (k : Int) (w : World) : (Instr.checkKey b (n + 1) 3 (.int .i64 k)).run Try.prog w = .ok () w := by
  simp [Instr.checkKey, run_underlying Try.underlying3, Result.andThen]
section
variable {w : World} {g : Nat} {m : List Ent} {clock : Nat}
theorem run_look (hg : w.heap[g]? = some (.map (rawM m) clock)) (k : Int) : (Instr.lookup 60 (.map (some g)) (.int .i64 k) false).run Try.prog w = .ok (.agg (u8c (look m k)).toArray) w := by
  have K := Maps.int_keyed (P := Try.prog) Try.underlying3
  have hz : (zeroValue 68).run Try.prog w = .ok (.agg (u8c s64).toArray) w := by
    have hi : (Try.prog.info? 68).map (·.zero) = some (some (.agg (u8c s64).toArray)) := by kernel_rfl
    obtain ⟨i, hi1, hi2⟩ := Option.map_eq_some_iff.1 hi
    simp [zeroValue, typeInfo, hi1, hi2]
  have hf := find_raw k m 0
  have hck : ∀ b, (Instr.checkKey b 10000 3 (.int .i64 k)).run Try.prog w = .ok () w := fun b => check_int b 9999 k w
  have hl : (rawM m).toList = m.map Ent.raw := by simp [rawM]
  cases e : idxM m k 0 with
  | none =>
    have h1 : look m k = s64 := look_none m k ((idx_none m k 0).1 e)
    rw [e] at hf
    simp [Instr.lookup, run_underlying Try.underlying60, run_underlying Try.underlying3, MapKept.run_getObj_map hg, hck, Instr.findKey, hl, hf, hz, h1, Result.andThen]
  | some p =>
    have h1 := (idx_look m k 0 p e).1
    rw [e] at hf
    simp [Instr.lookup, run_underlying Try.underlying60, run_underlying Try.underlying3, MapKept.run_getObj_map hg, hck, Instr.findKey, hl, hf, h1, Result.andThen]
theorem run_put (hg : w.heap[g]? = some (.map (rawM m) clock)) (k : Int) (b : List Int) : ∃ clock', (Instr.mapUpdate 60 (.map (some g)) (.int .i64 k) (.agg (u8c b).toArray)).run Try.prog w = .ok () (ChangeMaps.setBlock w g (.map (rawM (putM m k b clock)) clock')) := by
  have hf := find_raw k m 0
  have hck : ∀ b, (Instr.checkKey b 10000 3 (.int .i64 k)).run Try.prog w = .ok () w := fun b => check_int b 9999 k w
  have hl : (rawM m).toList = m.map Ent.raw := by simp [rawM]
  cases e : idxM m k 0 with
  | none =>
    have h0 : hasM m k = false := (idx_none m k 0).1 e
    have h1 : rawM (putM m k b clock) = (rawM m).push { key := .int .i64 k, val := .agg (u8c b).toArray, born := clock } := by
      unfold putM
      rw [if_neg (by rw [h0]; decide)]
      simp [rawM, Ent.raw]
    rw [e] at hf
    refine ⟨clock + 1, ?_⟩
    rw [h1]
    simp [Instr.mapUpdate, run_underlying Try.underlying60, run_underlying Try.underlying3, MapKept.run_getObj_map hg, hck, Instr.findKey, hl, hf, MapKept.run_setObj_map _ hg, Result.andThen, ChangeMaps.setBlock]
  | some p =>
    have h0 : hasM m k = true := by
      cases h : hasM m k with
      | true => rfl
      | false => rw [(idx_none m k 0).2 h] at e; cases e
    obtain ⟨h1, h2, _⟩ := set_raw m k b 0 p e
    rw [Nat.sub_zero] at h1 h2
    have h3 : rawM (putM m k b clock) = (rawM m).modify p.1 (fun e => { e with key := .int .i64 k, val := .agg (u8c b).toArray }) := by
      unfold putM
      rw [if_pos h0]
      apply Array.ext'
      rw [Array.toList_modify, hl, h1]
      simp [rawM]
    have h4 : ((rawM m)[p.1]?).map (·.key) = some (.int .i64 k) := by
      rw [← Array.getElem?_toList, hl]; exact h2
    rw [e] at hf
    refine ⟨clock, ?_⟩
    rw [h3]
    obtain ⟨e0, he0, hk0⟩ := Option.map_eq_some_iff.1 h4
    have hst : (Instr.keyThatStays (.int .i64 k) (.int .i64 k)).run Try.prog w = .ok (.int .i64 k) w := by simp [Instr.keyThatStays, Instr.sameBits]
    simp [Instr.mapUpdate, run_underlying Try.underlying60, run_underlying Try.underlying3, MapKept.run_getObj_map hg, hck, Instr.findKey, hl, hf, he0, hk0, hst, MapKept.run_setObj_map _ hg, Result.andThen, ChangeMaps.setBlock]
end
theorem Hp.setObj {w0 w : World} {Rs : List Res} (h : Hp w0 w Rs) (i : Nat) {g : Nat} {o o' : Obj} (hi : Rs[i]? = some (.blk g o)) : Hp w0 (ChangeMaps.setBlock w g o') (Rs.set i (.blk g o')) := by
  have hg := h.blk i hi
  have hlt : g < w.heap.size := (Array.getElem?_eq_some_iff.1 hg).1
  refine h.setB i hi ⟨rfl, rfl, rfl, by simp [ChangeMaps.setBlock], fun k hk hne => ?_⟩ ?_
  · have h1 : g ≠ k := fun e => hne (by rw [e])
    simp [ChangeMaps.setBlock, Array.getElem?_setIfInBounds, h1]
  · simp [ChangeMaps.setBlock, Array.getElem?_setIfInBounds, hlt]
end Go.Proofs.Ytejfocliopbocaa.D
