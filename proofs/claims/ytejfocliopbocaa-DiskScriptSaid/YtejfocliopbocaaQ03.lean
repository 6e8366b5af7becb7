import Derived.Test.YtejfocliopbocaaQ01
import Derived.Maps.Keyed
import Derived.Test.YtejfocliopbocaaQ02
import Derived.Deep.RegionHeld3
import Derived.Deep.DrawnRows
import Derived.Deep.LoopGhost
namespace Go.Proofs.Ytejfocliopbocaa.D
open Go.RowKit Go.Proofs.YtejfocliopbocaaW.PrintWords Go.Proofs.YtejfocliopbocaaXs
set_option linter.unusedVariables false
set_option linter.unusedSimpArgs false
def s64 : List Int := List.replicate 64 0
def u8c (l : List Int) : List Value := l.map (Value.int .u8)
structure Ent where
  n : Int
  b : List Int
  born : Nat
def Ent.raw (x : Ent) : MapEntry := { key := .int .i64 x.n, val := .agg (u8c x.b).toArray, born := x.born }
def rawM (m : List Ent) : Array MapEntry := (m.map Ent.raw).toArray
def look : List Ent → Int → List Int
  | [], _ => s64
  | x :: m, k => if x.n = k then x.b else look m k
def hasM : List Ent → Int → Bool
  | [], _ => false
  | x :: m, k => if x.n = k then true else hasM m k
def setM : List Ent → Int → List Int → List Ent
  | [], _, _ => []
  | x :: m, k, b => if x.n = k then ⟨k, b, x.born⟩ :: m else x :: setM m k b
def putM (m : List Ent) (k : Int) (b : List Int) (clock : Nat) : List Ent := if hasM m k then setM m k b else m ++ [⟨k, b, clock⟩]
theorem look_set : ∀ (m : List Ent) (k j : Int) (b : List Int), hasM m k = true → look (setM m k b) j = if k = j then b else look m j
  | [], k, j, b, h => by simp [hasM] at h
  | x :: m, k, j, b, h => by
    unfold setM hasM at *
    by_cases h1 : x.n = k
    · subst h1
      rw [if_pos rfl]
      simp only [look]
      by_cases h2 : x.n = j
      · rw [if_pos h2, if_pos h2]
      · rw [if_neg h2, if_neg h2, if_neg h2]
    · rw [if_neg h1] at h ⊢
      simp only [look]
      rw [look_set m k j b h]
      by_cases h2 : x.n = j
      · rw [if_pos h2, if_neg (by omega)]
        rw [if_pos h2]
      · rw [if_neg h2, if_neg h2]
theorem look_push : ∀ (m : List Ent) (k j : Int) (b : List Int) (c : Nat), hasM m k = false → look (m ++ [⟨k, b, c⟩]) j = if k = j then b else look m j
  | [], k, j, b, c, _ => by simp [look]
  | x :: m, k, j, b, c, h => by
    unfold hasM at h
    by_cases h1 : x.n = k
    · rw [if_pos h1] at h; cases h
    · rw [if_neg h1] at h
      rw [List.cons_append]
      simp only [look]
      rw [look_push m k j b c h]
      by_cases h2 : x.n = j
      · rw [if_pos h2, if_pos h2, if_neg (by omega)]
      · rw [if_neg h2, if_neg h2]
theorem look_put (m : List Ent) (k j : Int) (b : List Int) (c : Nat) : look (putM m k b c) j = if k = j then b else look m j := by
  unfold putM
  by_cases h : hasM m k = true
  · rw [if_pos h]; exact look_set m k j b h
  · rw [if_neg h]; exact look_push m k j b c (by simpa using h)
/-- which entry -/
def idxM : List Ent → Int → Nat → Option (Nat × List Int)
  | [], _, _ => none
  | x :: m, k, i => if x.n = k then some (i, x.b) else idxM m k (i + 1)
theorem find_raw (k : Int) : ∀ (m : List Ent) (i : Nat), Instr.findNow (.int .i64) (.int .i64 k) (m.map Ent.raw) i = some ((idxM m k i).map fun p => (p.1, .agg (u8c p.2).toArray))
  | [], i => rfl
  | x :: m, i => by
    simp only [List.map_cons, Instr.findNow, Ent.raw, Instr.sameNow, if_true, idxM]
    by_cases h : x.n = k
    · rw [if_pos h, h]
      simp
    · rw [if_neg h, show (k == x.n) = false from by simpa using fun e => h e.symm]
      exact find_raw k m (i + 1)
theorem idx_none : ∀ (m : List Ent) (k : Int) (i : Nat), idxM m k i = none ↔ hasM m k = false
  | [], _, _ => by simp [idxM, hasM]
  | x :: m, k, i => by
    unfold idxM hasM
    by_cases h : x.n = k
    · simp [h]
    · rw [if_neg h, if_neg h]; exact idx_none m k (i + 1)
theorem idx_look : ∀ (m : List Ent) (k : Int) (i : Nat) (p : Nat × List Int), idxM m k i = some p → p.2 = look m k ∧ i ≤ p.1 ∧ m.set (p.1 - i) ⟨k, p.2, ((m[p.1 - i]?).map (·.born)).getD 0⟩ = m
  | [], _, _, _, h => by simp [idxM] at h
  | x :: m, k, i, p, h => by
    unfold idxM at h
    unfold look
    by_cases hk : x.n = k
    · rw [if_pos hk] at h ⊢
      cases h
      simp [← hk]
    · rw [if_neg hk] at h ⊢
      obtain ⟨h1, h2, h3⟩ := idx_look m k (i + 1) p h
      refine ⟨h1, by omega, ?_⟩
      rw [show p.1 - i = (p.1 - (i + 1)) + 1 by omega]
      simp only [List.set_cons_succ, List.getElem?_cons_succ]
      rw [h3]
theorem look_none : ∀ (m : List Ent) (k : Int), hasM m k = false → look m k = s64
  | [], _, _ => rfl
  | x :: m, k, h => by
    unfold hasM at h
    unfold look
    by_cases hk : x.n = k
    · rw [if_pos hk] at h; cases h
    · rw [if_neg hk] at h ⊢; exact look_none m k h
theorem set_raw : ∀ (m : List Ent) (k : Int) (b : List Int) (i : Nat) (p : Nat × List Int), idxM m k i = some p → (m.map Ent.raw).modify (p.1 - i) (fun e => { e with key := .int .i64 k, val := .agg (u8c b).toArray }) = (setM m k b).map Ent.raw ∧ ((m.map Ent.raw)[p.1 - i]?).map (·.key) = some (.int .i64 k) ∧ i ≤ p.1
  | [], _, _, _, _, h => by simp [idxM] at h
  | x :: m, k, b, i, p, h => by
    unfold idxM at h
    unfold setM
    by_cases hk : x.n = k
    · rw [if_pos hk] at h ⊢
      cases h
      simp [Ent.raw, hk]
    · rw [if_neg hk] at h ⊢
      obtain ⟨h1, h2, h3⟩ := set_raw m k b (i + 1) p h
      rw [show p.1 - i = (p.1 - (i + 1)) + 1 by omega]
      refine ⟨?_, ?_, by omega⟩
      · simp only [List.map_cons, List.modify_succ_cons, h1]
      · simpa using h2
theorem check_int (b : Bool) (n : Nat) (k : Int) (w : World) : (Instr.checkKey b (n + 1) 3 (.int .i64 k)).run Try.prog w = .ok () w := by
  simp [Instr.checkKey, run_underlying Try.underlying3, Result.andThen]
section
variable {w : World} {g : Nat} {m : List Ent} {clock : Nat}
theorem run_look (hg : w.heap[g]? = some (.map (rawM m) clock)) (k : Int) : (Instr.lookup 60 (.map (some g)) (.int .i64 k) false).run Try.prog w = .ok (.agg (u8c (look m k)).toArray) w := by
  have K := Maps.int_keyed (P := Try.prog) Try.underlying3
  have hz : (zeroValue 68).run Try.prog w = .ok (.agg (u8c s64).toArray) w := by
    have hi : (Try.prog.info? 68).map (·.zero) = some (some (.agg (u8c s64).toArray)) := by kernel_rfl
    obtain ⟨i, hi1, hi2⟩ := Option.map_eq_some_iff.1 hi
    simp [zeroValue, typeInfo, hi1, hi2]
  have hf := find_raw k m 0
  have hck : ∀ b, (Instr.checkKey b 10000 3 (.int .i64 k)).run Try.prog w = .ok () w := fun b => check_int b 9999 k w
  have hl : (rawM m).toList = m.map Ent.raw := by simp [rawM]
  cases e : idxM m k 0 with
  | none =>
    have h1 : look m k = s64 := look_none m k ((idx_none m k 0).1 e)
    rw [e] at hf
    simp [Instr.lookup, run_underlying Try.underlying60, run_underlying Try.underlying3, MapKept.run_getObj_map hg, hck, Instr.findKey, hl, hf, hz, h1, Result.andThen]
  | some p =>
    have h1 := (idx_look m k 0 p e).1
    rw [e] at hf
    simp [Instr.lookup, run_underlying Try.underlying60, run_underlying Try.underlying3, MapKept.run_getObj_map hg, hck, Instr.findKey, hl, hf, h1, Result.andThen]
theorem run_put (hg : w.heap[g]? = some (.map (rawM m) clock)) (k : Int) (b : List Int) : ∃ clock', (Instr.mapUpdate 60 (.map (some g)) (.int .i64 k) (.agg (u8c b).toArray)).run Try.prog w = .ok () (ChangeMaps.setBlock w g (.map (rawM (putM m k b clock)) clock')) := by
  have hf := find_raw k m 0
  have hck : ∀ b, (Instr.checkKey b 10000 3 (.int .i64 k)).run Try.prog w = .ok () w := fun b => check_int b 9999 k w
  have hl : (rawM m).toList = m.map Ent.raw := by simp [rawM]
  cases e : idxM m k 0 with
  | none =>
    have h0 : hasM m k = false := (idx_none m k 0).1 e
    have h1 : rawM (putM m k b clock) = (rawM m).push { key := .int .i64 k, val := .agg (u8c b).toArray, born := clock } := by
      unfold putM
      rw [if_neg (by rw [h0]; decide)]
      simp [rawM, Ent.raw]
    rw [e] at hf
    refine ⟨clock + 1, ?_⟩
    rw [h1]
    simp [Instr.mapUpdate, run_underlying Try.underlying60, run_underlying Try.underlying3, MapKept.run_getObj_map hg, hck, Instr.findKey, hl, hf, MapKept.run_setObj_map _ hg, Result.andThen, ChangeMaps.setBlock]
  | some p =>
    have h0 : hasM m k = true := by
      cases h : hasM m k with
      | true => rfl
      | false => rw [(idx_none m k 0).2 h] at e; cases e
    obtain ⟨h1, h2, _⟩ := set_raw m k b 0 p e
    rw [Nat.sub_zero] at h1 h2
    have h3 : rawM (putM m k b clock) = (rawM m).modify p.1 (fun e => { e with key := .int .i64 k, val := .agg (u8c b).toArray }) := by
      unfold putM
      rw [if_pos h0]
      apply Array.ext'
      rw [Array.toList_modify, hl, h1]
      simp [rawM]
    have h4 : ((rawM m)[p.1]?).map (·.key) = some (.int .i64 k) := by
      rw [← Array.getElem?_toList, hl]; exact h2
    rw [e] at hf
    refine ⟨clock, ?_⟩
    rw [h3]
    obtain ⟨e0, he0, hk0⟩ := Option.map_eq_some_iff.1 h4
    have hst : (Instr.keyThatStays (.int .i64 k) (.int .i64 k)).run Try.prog w = .ok (.int .i64 k) w := by simp [Instr.keyThatStays, Instr.sameBits]
    simp [Instr.mapUpdate, run_underlying Try.underlying60, run_underlying Try.underlying3, MapKept.run_getObj_map hg, hck, Instr.findKey, hl, hf, he0, hk0, hst, MapKept.run_setObj_map _ hg, Result.andThen, ChangeMaps.setBlock]
end
theorem Hp.setObj {w0 w : World} {Rs : List Res} (h : Hp w0 w Rs) (i : Nat) {g : Nat} {o o' : Obj} (hi : Rs[i]? = some (.blk g o)) : Hp w0 (ChangeMaps.setBlock w g o') (Rs.set i (.blk g o')) := by
  have hg := h.blk i hi
  have hlt : g < w.heap.size := (Array.getElem?_eq_some_iff.1 hg).1
  refine h.setB i hi ⟨rfl, rfl, rfl, by simp [ChangeMaps.setBlock], fun k hk hne => ?_⟩ ?_
  · have h1 : g ≠ k := fun e => hne (by rw [e])
    simp [ChangeMaps.setBlock, Array.getElem?_setIfInBounds, h1]
  · simp [ChangeMaps.setBlock, Array.getElem?_setIfInBounds, hlt]
end Go.Proofs.Ytejfocliopbocaa.D
namespace Go.Proofs.Ytejfocliopbocaa.D
open Go.RowKit Go.Proofs.Ytejfocliopbocaa.XD Go.Proofs.YtejfocliopbocaaW.PrintWords Go.Proofs.YtejfocliopbocaaW.PrintLast Go.Proofs.YtejfocliopbocaaW.PrintMore Go.Proofs.YtejfocliopbocaaXe Go.Proofs.YtejfocliopbocaaXs
set_option linter.unusedVariables false
set_option linter.unusedSimpArgs false
/-- a disk's own cells -/
def dC (steps fuse : Int) (out made : Bool) (many : Int) (gm : Nat) (l : Value) : List Value := [.int .i64 steps, .int .i64 fuse, .bool out, .bool made, .int .i64 many, .map (some gm), l]
set_option maxHeartbeats 8000000 in
set_option maxRecDepth 100000 in
theorem c_none (g : Nat) (steps fuse : Int) (out : Bool) (many : Int) (gm : Nat) (l : Value) (w : World) (hg : w.heap[g]? = some (.cells (dC steps fuse out true many gm l).toArray 63 (0, 0))) :
    Calls Try.prog 32 #[.pointer (some ⟨g, 0, none⟩)] w fun e w' => e = .returned (.bool false) ∧ w' = w := by
  have h3 : w.cell? ⟨g, 3, none⟩ = some (.bool true) := blk_cell hg 3
  go_enter Try.func32, Try.ntmps32
  go_wp2
  go_ret
  exact ⟨rfl, rfl⟩
def readyD (out : Bool) (many n : Int) : Int := if out then 10 else if n < 0 ∨ many ≤ n then 5 else 0
set_option maxHeartbeats 8000000 in
set_option maxRecDepth 100000 in
theorem c_ready (g : Nat) (steps fuse : Int) (out : Bool) (many : Int) (gm : Nat) (l : Value) (n : Int) (w : World) (hg : w.heap[g]? = some (.cells (dC steps fuse out true many gm l).toArray 63 (0, 0))) :
    Calls Try.prog 29 #[.pointer (some ⟨g, 0, none⟩), .int .i64 n] w fun e w' => e = .returned (.int .i64 (readyD out many n)) ∧ w' = w := by
  have h2 : w.cell? ⟨g, 2, none⟩ = some (.bool out) := blk_cell hg 2
  have h4 : w.cell? ⟨g, 4, none⟩ = some (.int .i64 many) := blk_cell hg 4
  have HN := Aside0.mk (c_none g steps fuse out many gm l w hg)
  clear hg
  unfold readyD
  cases out with
  | true =>
    go_enter Try.func29, Try.ntmps29
    go_wp2_with fail
    refine HN.out.mono ?_; rintro e w_ ⟨rfl, rfl⟩
    go_wp2_with fail
    go_ret
    exact ⟨rfl, rfl⟩
  | false =>
    by_cases c1 : n < 0
    · have d1 : decide (n < 0) = true := decide_eq_true c1
      rw [if_pos (show n < 0 ∨ many ≤ n from .inl c1)]
      go_enter Try.func29, Try.ntmps29
      go_wp2_with fail
      refine HN.out.mono ?_; rintro e w_ ⟨rfl, rfl⟩
      go_wp2_with fail
      go_ret
      exact ⟨by simp, rfl⟩
    · have d1 : decide (n < 0) = false := decide_eq_false c1
      by_cases c2 : many ≤ n
      · have d2 : decide (many ≤ n) = true := decide_eq_true c2
        rw [if_pos (show n < 0 ∨ many ≤ n from .inr c2)]
        go_enter Try.func29, Try.ntmps29
        go_wp2_with fail
        refine HN.out.mono ?_; rintro e w_ ⟨rfl, rfl⟩
        go_wp2_with fail
        go_ret
        exact ⟨by simp, rfl⟩
      · have d2 : decide (many ≤ n) = false := decide_eq_false c2
        rw [if_neg (show ¬ (n < 0 ∨ many ≤ n) by omega)]
        go_enter Try.func29, Try.ntmps29
        go_wp2_with fail
        refine HN.out.mono ?_; rintro e w_ ⟨rfl, rfl⟩
        go_wp2_with fail
        go_ret
        exact ⟨by simp, rfl⟩
end Go.Proofs.Ytejfocliopbocaa.D
namespace Go.Proofs.Ytejfocliopbocaa.D
open Go.RowKit Go.Proofs.Ytejfocliopbocaa.XD Go.Proofs.YtejfocliopbocaaW.PrintWords Go.Proofs.YtejfocliopbocaaW.PrintLast Go.Proofs.YtejfocliopbocaaW.PrintMore Go.Proofs.YtejfocliopbocaaXe Go.Proofs.YtejfocliopbocaaXs
set_option linter.unusedVariables false
set_option linter.unusedSimpArgs false
set_option maxHeartbeats 8000000 in
set_option maxRecDepth 100000 in
theorem c_len (g : Nat) (steps fuse : Int) (out : Bool) (many : Int) (gm : Nat) (l : Value) (w : World) (hg : w.heap[g]? = some (.cells (dC steps fuse out true many gm l).toArray 63 (0, 0))) :
    Calls Try.prog 27 #[.pointer (some ⟨g, 0, none⟩)] w fun e w' => e = .returned (.int .i64 many) ∧ w' = w := by
  have h4 : w.cell? ⟨g, 4, none⟩ = some (.int .i64 many) := blk_cell hg 4
  have HN := Aside0.mk (c_none g steps fuse out many gm l w hg)
  clear hg
  go_enter Try.func27, Try.ntmps27
  go_wp2_with fail
  refine HN.out.mono ?_; rintro e w_ ⟨rfl, rfl⟩
  go_wp2_with fail
  go_ret
  exact ⟨rfl, rfl⟩
set_option maxHeartbeats 8000000 in
set_option maxRecDepth 100000 in
theorem c_steps (g : Nat) (steps fuse : Int) (out : Bool) (many : Int) (gm : Nat) (l : Value) (w : World) (hg : w.heap[g]? = some (.cells (dC steps fuse out true many gm l).toArray 63 (0, 0))) :
    Calls Try.prog 28 #[.pointer (some ⟨g, 0, none⟩)] w fun e w' => e = .returned (.int .i64 steps) ∧ w' = w := by
  have h4 : w.cell? ⟨g, 0, none⟩ = some (.int .i64 steps) := blk_cell hg 0
  have HN := Aside0.mk (c_none g steps fuse out many gm l w hg)
  clear hg
  go_enter Try.func28, Try.ntmps28
  go_wp2_with fail
  refine HN.out.mono ?_; rintro e w_ ⟨rfl, rfl⟩
  go_wp2_with fail
  go_ret
  exact ⟨rfl, rfl⟩
set_option maxHeartbeats 8000000 in
set_option maxRecDepth 100000 in
theorem c_loose (g : Nat) (steps fuse : Int) (out : Bool) (many : Int) (gm : Nat) (A : Option Addr) (n c : Nat) (w : World) (hg : w.heap[g]? = some (.cells (dC steps fuse out true many gm (.slice A n c)).toArray 63 (0, 0))) :
    Calls Try.prog 22 #[.pointer (some ⟨g, 0, none⟩)] w fun e w' => e = .returned (.int .i64 (n : Int)) ∧ w' = w := by
  have h4 : w.cell? ⟨g, 6, none⟩ = some (.slice A n c) := blk_cell hg 6
  have HN := Aside0.mk (c_none g steps fuse out many gm (.slice A n c) w hg)
  clear hg
  go_enter Try.func22, Try.ntmps22
  go_wp2_with fail
  refine HN.out.mono ?_; rintro e w_ ⟨rfl, rfl⟩
  go_wp2_with fail
  go_ret
  exact ⟨rfl, rfl⟩
set_option maxHeartbeats 8000000 in
set_option maxRecDepth 100000 in
theorem c_up (g : Nat) (steps fuse : Int) (out : Bool) (many : Int) (gm : Nat) (l : Value) (w : World) (hg : w.heap[g]? = some (.cells (dC steps fuse out true many gm l).toArray 63 (0, 0))) :
    Calls Try.prog 16 #[.pointer (some ⟨g, 0, none⟩)] w fun e w' => e = .returned (.bool (!out)) ∧ w' = w := by
  have h4 : w.cell? ⟨g, 2, none⟩ = some (.bool out) := blk_cell hg 2
  have HN := Aside0.mk (c_none g steps fuse out many gm l w hg)
  clear hg
  go_enter Try.func16, Try.ntmps16
  go_wp2_with fail
  refine HN.out.mono ?_; rintro e w_ ⟨rfl, rfl⟩
  go_wp2_with fail
  go_ret
  exact ⟨rfl, rfl⟩
end Go.Proofs.Ytejfocliopbocaa.D
namespace Go.Proofs.Ytejfocliopbocaa.D
open Go.RowKit Go.Proofs.Ytejfocliopbocaa.XD Go.Proofs.YtejfocliopbocaaW.PrintWords Go.Proofs.YtejfocliopbocaaW.PrintLast Go.Proofs.YtejfocliopbocaaW.PrintMore Go.Proofs.YtejfocliopbocaaXe Go.Proofs.YtejfocliopbocaaXs
set_option linter.unusedVariables false
set_option linter.unusedSimpArgs false
theorem set_selfD {α : Type} {l : List α} {i : Nat} {x : α} (h : l[i]? = some x) : l.set i x = l := by
  apply List.ext_getElem?
  intro j
  have hi : i < l.length := (List.getElem?_eq_some_iff.1 h).1
  rw [List.getElem?_set]
  split
  · subst_vars
    first | exact h.symm | (rw [if_pos hi, h])
  · rfl
set_option maxHeartbeats 8000000 in
set_option maxRecDepth 100000 in
theorem c_fuse {w0 w : World} {Rs : List Res} (HP : Hp w0 w Rs) (i g : Nat) (steps fuse : Int) (out : Bool) (many : Int) (gm : Nat) (l : Value) (n : Int) (hi : Rs[i]? = some (.blk g (.cells (dC steps fuse out true many gm l).toArray 63 (0, 0)))) :
    Calls Try.prog 15 #[.pointer (some ⟨g, 0, none⟩), .int .i64 n] w fun e w' => e = .returned (.int .i64 (if n < 0 then 2 else 0)) ∧ Hp w0 w' (Rs.set i (.blk g (.cells (dC steps (if n < 0 then fuse else n) out true many gm l).toArray 63 (0, 0)))) := by
  have HG := Aside0.mk HP
  have HN := Aside0.mk (c_none g steps fuse out many gm l w (HP.blk i hi))
  have hc : w.cell? ⟨g, 1, none⟩ = some (.int .i64 fuse) := blk_cell (HP.blk i hi) 1
  have hf := blk_frozen (HP.blk i hi) 1
  have HI := Aside0.mk hi
  have HP2 := Aside0.mk (HP.setCell i hi 1 (.int .i64 n))
  clear HP hi
  by_cases c1 : n < 0
  · have d1 : decide (n < 0) = true := decide_eq_true c1
    rw [if_pos c1, if_pos c1]
    clear hc hf HP2
    go_enter Try.func15, Try.ntmps15
    go_wp2_with fail
    refine HN.out.mono ?_; rintro e w_ ⟨rfl, rfl⟩
    go_wp2_with fail
    go_ret
    exact ⟨rfl, by rw [set_selfD HI.out]; exact HG.out⟩
  · have d1 : decide (n < 0) = false := decide_eq_false c1
    rw [if_neg c1, if_neg c1]
    go_enter Try.func15, Try.ntmps15
    go_wp2_with fail
    refine HN.out.mono ?_; rintro e w_ ⟨rfl, rfl⟩
    go_wp2_with fail
    go_ret
    exact ⟨rfl, HP2.out⟩
end Go.Proofs.Ytejfocliopbocaa.D
namespace Go.Proofs.Ytejfocliopbocaa.D
open Go.RowKit Go.Proofs.Ytejfocliopbocaa.XD Go.Proofs.YtejfocliopbocaaW.PrintWords Go.Proofs.YtejfocliopbocaaW.PrintLast Go.Proofs.YtejfocliopbocaaW.PrintMore Go.Proofs.YtejfocliopbocaaXe Go.Proofs.YtejfocliopbocaaXs
set_option linter.unusedVariables false
set_option linter.unusedSimpArgs false
theorem results_two_tmps {P : Program} {fn : Func} {p p2 : Tmp} (h : fn.results = #[.tmp p, .tmp p2]) (tmps : Array Value) (w : World) {v v2 : Value} (hp : tmps.getD p undef = v) (hp2 : tmps.getD p2 undef = v2) : (results fn tmps).run P w = .ok (.tuple #[v, v2]) w := by
  have hp' : tmps[p]?.getD undef = v := by simpa using hp
  have hp2' : tmps[p2]?.getD undef = v2 := by simpa using hp2
  simp [results, h, hp', hp2']
set_option maxHeartbeats 8000000 in
set_option maxRecDepth 100000 in
theorem c_new (n : Int) (h0 : 0 ≤ n) (h1 : n ≤ 65536) (w : World) :
    Calls Try.prog 9 #[.int .i64 n] w fun e w' => ∃ g gm, e = .returned (.tuple #[.pointer (some ⟨g, 0, none⟩), .int .i64 0]) ∧ Hp w w' [.blk g (.cells (dC 0 (-1) false true n gm (.slice none 0 0)).toArray 63 (0, 0)), .blk gm (.map (rawM []) 0)] := by
  have HP := Aside0.mk ((Hp.start w).alloc (.map (rawM []) 0))
  have d1 : decide (n < 0) = false := decide_eq_false (by omega)
  have d2 : decide (65536 < n) = false := decide_eq_false (by omega)
  clear h0 h1
  go_enter Try.func9, Try.ntmps9
  have hmk : (Instr.makeMap 60 none).run Try.prog w = .ok (.map (some w.heap.size)) (w.alloc (.map (rawM []) 0)) := by simp [Instr.makeMap, rawM, Result.andThen]
  go_wp2_with (first | ((with_reducible refine gate_dst (N := 12) rfl ?_); refine ev_run rfl (show _ = Result.ok (Next.value _) _ from by go_simp; rw [hmk]; rfl) ?_))
  refine bodyPost_ret (results_two_tmps rfl _ _ rfl rfl) rfl ?_
  have h := HP.out.alloc (.cells (dC 0 (-1) false true n w.heap.size (.slice none 0 0)).toArray 63 (0, 0))
  rw [show (w.alloc (.map (rawM []) 0)).heap.size = w.heap.size + 1 by simp] at h
  exact ⟨_, _, rfl, h⟩
end Go.Proofs.Ytejfocliopbocaa.D
namespace Go.Proofs.Ytejfocliopbocaa.D
open Go.RowKit Go.Proofs.Ytejfocliopbocaa.XD Go.Proofs.YtejfocliopbocaaW.PrintWords Go.Proofs.YtejfocliopbocaaW.PrintLast Go.Proofs.YtejfocliopbocaaW.PrintMore Go.Proofs.YtejfocliopbocaaXe Go.Proofs.YtejfocliopbocaaXs
set_option linter.unusedVariables false
set_option linter.unusedSimpArgs false
set_option maxHeartbeats 8000000 in
set_option maxRecDepth 100000 in
theorem c_step0 {w0 w : World} {Rs : List Res} (HP : Hp w0 w Rs) (i g : Nat) (steps fuse : Int) (out made : Bool) (many : Int) (gm : Nat) (l : Value) (fv : Value) (hi : Rs[i]? = some (.blk g (.cells (dC steps fuse out made many gm l).toArray 63 (0, 0)))) (h : out = true ∨ fuse = 0) :
    Calls Try.prog 30 #[.pointer (some ⟨g, 0, none⟩), fv] w fun e w' => e = .returned (.int .i64 10) ∧ Hp w0 w' (Rs.set i (.blk g (.cells (dC steps fuse true made many gm l).toArray 63 (0, 0)))) := by
  have hc2 : w.cell? ⟨g, 2, none⟩ = some (.bool out) := blk_cell (HP.blk i hi) 2
  have hc1 : w.cell? ⟨g, 1, none⟩ = some (.int .i64 fuse) := blk_cell (HP.blk i hi) 1
  have hf2 := blk_frozen (HP.blk i hi) 2
  have HP2 := Aside0.mk (HP.setCell i hi 2 (.bool true))
  clear HP hi
  cases out with
  | true =>
    clear h
    go_enter Try.func30, Try.ntmps30
    go_wp2_with fail
    go_ret
    exact ⟨rfl, HP2.out⟩
  | false =>
    obtain rfl : fuse = 0 := by simpa using h
    clear h
    go_enter Try.func30, Try.ntmps30
    go_wp2_with fail
    go_ret
    exact ⟨rfl, HP2.out⟩
end Go.Proofs.Ytejfocliopbocaa.D
namespace Go.Proofs.Ytejfocliopbocaa.D
open Go.RowKit Go.Proofs.Ytejfocliopbocaa.XD Go.Proofs.YtejfocliopbocaaW.PrintWords Go.Proofs.YtejfocliopbocaaW.PrintLast Go.Proofs.YtejfocliopbocaaW.PrintMore Go.Proofs.YtejfocliopbocaaXe Go.Proofs.YtejfocliopbocaaXs
set_option linter.unusedVariables false
set_option linter.unusedSimpArgs false
/-- the fuse behind a step -/
def burn (fuse : Int) : Int := if 0 < fuse then wrap64 (fuse - 1) else fuse
set_option maxHeartbeats 8000000 in
set_option maxRecDepth 100000 in
theorem c_step1 {Q : World → Prop} {w0 w : World} {Rs : List Res} (HP : Hp w0 w Rs) (i g : Nat) (steps fuse : Int) (made : Bool) (many : Int) (gm : Nat) (l : Value) (F : FuncId) (cap : Array Value) (hi : Rs[i]? = some (.blk g (.cells (dC steps fuse false made many gm l).toArray 63 (0, 0)))) (h : fuse ≠ 0) (hen : ∀ w, (callFunc F cap).run Try.prog w = .ok (.enter F cap) w)
    (hF : ∀ w1, Hp w0 w1 (Rs.set i (.blk g (.cells (dC (wrap64 (steps + 1)) (burn fuse) false made many gm l).toArray 63 (0, 0)))) → Calls Try.prog F cap w1 fun e w' => e = .returned (.tuple #[]) ∧ Q w') :
    Calls Try.prog 30 #[.pointer (some ⟨g, 0, none⟩), .func (.func F) #[] cap] w fun e w' => e = .returned (.int .i64 0) ∧ Q w' := by
  have hc2 : w.cell? ⟨g, 2, none⟩ = some (.bool false) := blk_cell (HP.blk i hi) 2
  have hc1 : w.cell? ⟨g, 1, none⟩ = some (.int .i64 fuse) := blk_cell (HP.blk i hi) 1
  have hc0 : w.cell? ⟨g, 0, none⟩ = some (.int .i64 steps) := blk_cell (HP.blk i hi) 0
  have hf2 := blk_frozen (HP.blk i hi) 0
  have hf1 := blk_frozen (HP.blk i hi) 1
  have d1 : (fuse == 0) = false := beq_eq_false_iff_ne.2 h
  have hl : i < Rs.length := (List.getElem?_eq_some_iff.1 hi).1
  unfold burn at hF
  by_cases hp : 0 < fuse
  · have d2 : decide (0 < fuse) = true := decide_eq_true hp
    rw [if_pos hp] at hF
    have h1 := (HP.setCell i hi 1 (.int .i64 (wrap64 (fuse - 1)))).setCell i (set_get _ hl) 0 (.int .i64 (wrap64 (steps + 1)))
    rw [List.set_set] at h1
    have HF := Aside0.mk (hF _ h1)
    clear HP hi h hF hp hl h1
    go_enter Try.func30, Try.ntmps30
    go_wp2_with fail
    refine HF.out.mono ?_; rintro e w_ ⟨rfl, HQ⟩
    go_wp2_with fail
    go_ret
    exact ⟨rfl, HQ⟩
  · have d2 : decide (0 < fuse) = false := decide_eq_false hp
    rw [if_neg hp] at hF
    have HF := Aside0.mk (hF _ (HP.setCell i hi 0 (.int .i64 (wrap64 (steps + 1)))))
    clear HP hi h hF hp hl
    go_enter Try.func30, Try.ntmps30
    go_wp2_with fail
    refine HF.out.mono ?_; rintro e w_ ⟨rfl, HQ⟩
    go_wp2_with fail
    go_ret
    exact ⟨rfl, HQ⟩
end Go.Proofs.Ytejfocliopbocaa.D
namespace Go.Proofs.Ytejfocliopbocaa.D
open Go.RowKit Go.Proofs.Ytejfocliopbocaa.XD Go.Proofs.YtejfocliopbocaaW.PrintWords Go.Proofs.YtejfocliopbocaaW.PrintLast Go.Proofs.YtejfocliopbocaaW.PrintMore Go.Proofs.YtejfocliopbocaaXe Go.Proofs.YtejfocliopbocaaXs
set_option linter.unusedVariables false
set_option linter.unusedSimpArgs false
attribute [local go_sem ↓] Go.wp_at_zero Go.wp_at_succ
/-- a loose write's cells -/
def lc (n : Int) (b : List Int) : List Value := .int .i64 n :: u8c b
theorem u8c_len (l : List Int) : (u8c l).length = l.length := by simp [u8c]
theorem built_l (n : Int) (b : List Int) (hb : b.length = 64) : Try.prog.built 70 [(0, .int .i64 n), (1, .agg (u8c b).toArray)] = some (lc n b).toArray := by
  refine built_of (z := .agg (lc 0 s64).toArray) (by kernel_rfl) Try.underlying70 (places := [(0, 1), (1, (u8c b).length)]) (by rw [u8c_len, hb]; kernel_rfl) ?_
  refine fill_two _ _ _ _ ?_
  rw [u8c_len, hb]; rfl
theorem one_lc (n : Int) (b : List Int) : ∀ u ∈ lc n b, u.oneCell' = true := by
  intro u hu
  rcases List.mem_cons.1 hu with rfl | h
  · rfl
  · obtain ⟨x, _, rfl⟩ := List.mem_map.1 h
    rfl
/-- loose writes -/
def KL : Kd (Int × List Int) where
  sz := 65
  E := []
  K := fun _ x cs => cs = lc x.1 x.2 ∧ x.2.length = 64
  M := fun _ _ _ x cs => cs = lc x.1 x.2 ∧ x.2.length = 64
  K_len := fun ⟨h, h2⟩ => by rw [h, lc, List.length_cons, u8c_len, h2]
  K_one := fun ⟨h, _⟩ u hu => by rw [h] at hu; exact one_lc _ _ u hu
  K_below := fun _ h => h
  K_of_M := fun h => h
  M_mono := fun _ h => h
  M_bound := fun h => h
  M_move := fun _ h => h
  M_lower := fun _ h => h
theorem plain_KL : Plain KL := fun _ _ _ _ h => h
/-- what a disk is -/
structure DS where
  steps : Int
  fuse : Int
  out : Bool
  many : Int
  at' : Int → List Int
  l : List (Int × List Int)
def diskP (S : DS) (x : Nat × List Ent × Nat × Value) : Prop := look x.2.1 = S.at' ∧ ∀ k, (S.at' k).length = 64
def diskL (base g : Nat) (S : DS) (x : Nat × List Ent × Nat × Value) : List Res :=
  [.blk g (.cells (dC S.steps S.fuse S.out true S.many x.1 x.2.2.2).toArray 63 (0, 0)), .blk x.1 (.map (rawM x.2.1) x.2.2.1), .row KL 70 base x.2.2.2 S.l]
def rDisk (base g : Nat) (S : DS) : Res := .ex fun x => .fact (diskP S x) (.all (diskL base g S x))
theorem run_slit (n : Int) (b : List Int) (hb : b.length = 64) (w : World) : (Instr.buildSlice 61 1 #[(0, .agg (lc n b).toArray)]).run Try.prog w = .ok (.slice (some ⟨w.heap.size, 0, none⟩) 1 1) (w.alloc (.cells (lc n b).toArray 70)) := by
  have hl : (lc n b).length = 65 := by rw [lc, List.length_cons, u8c_len, hb]
  exact run_buildSlice1 Try.underlying61 (z := .agg (lc 0 s64).toArray) (by rw [hl]; kernel_rfl) (by omega) (by omega) w
theorem run_op_slit (n : Int) (b : List Int) (hb : b.length = 64) {o : Oper} {a : Act} {w : World} {x : Operand} (ho : o.op = .buildSlice 61 1 #[(0, x)] ∧ a.eval x = .agg (lc n b).toArray) : (execOp a.eval o).run Try.prog w = .ok (.value (.slice (some ⟨w.heap.size, 0, none⟩) 1 1)) (w.alloc (.cells (lc n b).toArray 70)) := by
  unfold execOp
  simp only [ho.1]
  simp [ho.2, run_slit n b hb w, Result.andThen]
theorem lc_C (n : Int) (b : List Int) (hb : b.length = 64) {w : World} {g : Nat} {t : TypeId} {fr : Nat × Nat} (hg : w.heap[g]? = some (.cells (lc n b).toArray t fr)) : KL.C w (some ⟨g, 0, none⟩) 1 [(n, b)] := C_blk1 KL hg ⟨rfl, hb⟩
theorem infoKL : (Try.prog.info? 70).map (fun i => (i.zero, i.size, i.bytes)) = some (some (.agg (lc 0 s64).toArray), 65, 72) := by kernel_rfl
set_option maxHeartbeats 8000000 in
set_option maxRecDepth 100000 in
theorem c_write1 {w0 w : World} {Rs : List Res} (g gm : Nat) (steps fuse : Int) (many : Int) (m : Obj) (v : Value) (n : Int) (A : Nat) (off c : Nat) (b : List Int) (hb : b.length = 64) (l : List (Int × List Int)) (hl : l.length ≤ 1000000) (b0 b1 b2 : Nat)
    (HP : Hp w0 w (.blk b2 (.cells #[.slice (some ⟨A, off, none⟩) 64 c] 27 (0, 0)) :: .blk b1 (.cells #[.int .i64 n] 3 (0, 0)) :: .blk b0 (.cells #[.pointer (some ⟨g, 0, none⟩)] 22 (0, 0)) :: .blk g (.cells (dC steps fuse false true many gm v).toArray 63 (0, 0)) :: .blk gm m :: .row KL 70 w0.heap.size v l :: Rs))
    (hB : ∀ w, Hp w0 w Rs → (Kd.int .u8).C w (some ⟨A, off, none⟩) 64 b) :
    Calls Try.prog 31 #[.pointer (some ⟨b0, 0, none⟩), .pointer (some ⟨b1, 0, none⟩), .pointer (some ⟨b2, 0, none⟩)] w fun e w' => e = .returned (.tuple #[]) ∧
      ∃ v', Hp w0 w' (.blk b2 (.cells #[.slice (some ⟨A, off, none⟩) 64 c] 27 (0, 0)) :: .blk b1 (.cells #[.int .i64 n] 3 (0, 0)) :: .blk b0 (.cells #[.pointer (some ⟨g, 0, none⟩)] 22 (0, 0)) :: .blk g (.cells (dC steps fuse false true many gm v').toArray 63 (0, 0)) :: .blk gm m :: .row KL 70 w0.heap.size v' (l ++ [(n, b)]) :: Rs) := by
  obtain ⟨Av, cv, rfl⟩ := Kd.R_slice (HP.row 5 rfl)
  have HPn := Aside0.mk HP
  clear HP
  have HP := HPn
  clear HPn
  have HB := Aside0.mk hB
  have HBL := Aside0.mk hb
  have HL := Aside0.mk hl
  have hu := Try.underlying68
  have hi : (Try.prog.info? 68).map (·.size) = some (u8c b).length := by rw [u8c_len, hb]; kernel_rfl
  have har : ∀ w, (Instr.arrayAt 68 (.slice (some ⟨A, off, none⟩) 64 c)).run Try.prog w = .ok (.pointer (some ⟨A, off, none⟩)) w := fun w => by simp [Instr.arrayAt, run_underlying hu]
  clear hB hb hl
  go_enter Try.func31, Try.ntmps31
  refine last_named (ds := [14]) (S := (fun w' => w'.cell? ⟨b0, 0, none⟩ = some (.pointer (some ⟨g, 0, none⟩)) ∧ w'.cell? ⟨b1, 0, none⟩ = some (.int .i64 n) ∧ w'.cell? ⟨b2, 0, none⟩ = some (.slice (some ⟨A, off, none⟩) 64 c) ∧ w'.cell? ⟨g, 6, none⟩ = some (.slice Av l.length cv) ∧ w'.rangeAt A off (u8c b))) (by kernel_rfl) (fun wd0 hwd0 => ?_)
  have HPn := Aside0.mk (HP.out.drewN 1)
  rw [← World.drew_is_drewN, hwd0] at HPn
  clear HP hwd0
  have HP := HPn
  clear HPn
  refine ⟨by (try dsimp only); first | exact ⟨blk_cell (HP.out.blk 2 rfl) 0, blk_cell (HP.out.blk 1 rfl) 0, blk_cell (HP.out.blk 0 rfl) 0, blk_cell (HP.out.blk 3 rfl) 6, range_C (HB.out _ (Hp.dropN [_, _, _, _, _, _] HP.out))⟩ | exact ⟨blk_cell (HP.out.blk 3 rfl) 0, blk_cell (HP.out.blk 2 rfl) 0, blk_cell (HP.out.blk 1 rfl) 0, blk_cell (HP.out.blk 4 rfl) 6, range_C (HB.out _ (Hp.dropN [_, _, _, _, _, _, _] HP.out))⟩, fun hHeld => ?_⟩
  refine wpAnyLast_take (i := 0) (oi := ({ dst := (some 3), op := (Op.load 22 (Operand.tmp 0)), type := 22, pos := "disk.go:90", after := #[], guard := none } : Oper)) (v := ?_) rfl (by kernel_rfl) (by kernel_rfl) (by kernel_rfl) (by kernel_rfl) (by kernel_rfl) (fun _ _ _ h => h) (Or.inl ⟨by rfl, ?_⟩) hHeld ?_
  rotate_left
  · intro w_ hSw; (try dsimp only at hSw); go_simp; try (with_reducible rfl)
  try simp only [Act.put, List.setIfInBounds_toArray, List.set_cons_zero, List.set_cons_succ]
  refine wpAnyLast_take (i := 1) (oi := ({ dst := (some 4), op := (Op.load 22 (Operand.tmp 0)), type := 22, pos := "disk.go:90", after := #[], guard := none } : Oper)) (v := ?_) rfl (by kernel_rfl) (by kernel_rfl) (by kernel_rfl) (by kernel_rfl) (by kernel_rfl) (fun _ _ _ h => h) (Or.inl ⟨by rfl, ?_⟩) hHeld ?_
  rotate_left
  · intro w_ hSw; (try dsimp only at hSw); go_simp; try (with_reducible rfl)
  try simp only [Act.put, List.setIfInBounds_toArray, List.set_cons_zero, List.set_cons_succ]
  refine wpAnyLast_take (i := 2) (oi := ({ dst := (some 5), op := (Op.nilCheck (Operand.tmp 4)), type := 0, pos := "disk.go:90", after := #[{ on := 1, ground := Ground.data }], guard := none } : Oper)) (v := ?_) rfl (by kernel_rfl) (by kernel_rfl) (by kernel_rfl) (by kernel_rfl) (by kernel_rfl) (fun _ _ _ h => h) (Or.inl ⟨by rfl, ?_⟩) hHeld ?_
  rotate_left
  · intro w_ hSw; (try dsimp only at hSw); go_simp; try (with_reducible rfl)
  try simp only [Act.put, List.setIfInBounds_toArray, List.set_cons_zero, List.set_cons_succ]
  refine wpAnyLast_take (i := 3) (oi := ({ dst := (some 6), op := (Op.fieldAddr 63 (Operand.tmp 5) 4), type := 0, pos := "disk.go:90", after := #[{ on := 2, ground := Ground.data }], guard := none } : Oper)) (v := ?_) rfl (by kernel_rfl) (by kernel_rfl) (by kernel_rfl) (by kernel_rfl) (by kernel_rfl) (fun _ _ _ h => h) (Or.inl ⟨by rfl, ?_⟩) hHeld ?_
  rotate_left
  · intro w_ hSw; (try dsimp only at hSw); go_simp; try (with_reducible rfl)
  try simp only [Act.put, List.setIfInBounds_toArray, List.set_cons_zero, List.set_cons_succ]
  refine wpAnyLast_take (i := 4) (oi := ({ dst := (some 7), op := (Op.load 61 (Operand.tmp 6)), type := 61, pos := "disk.go:90", after := #[{ on := 3, ground := Ground.data }], guard := none } : Oper)) (v := ?_) rfl (by kernel_rfl) (by kernel_rfl) (by kernel_rfl) (by kernel_rfl) (by kernel_rfl) (fun _ _ _ h => h) (Or.inl ⟨by rfl, ?_⟩) hHeld ?_
  rotate_left
  · intro w_ hSw; (try dsimp only at hSw); go_simp; try (with_reducible rfl)
  try simp only [Act.put, List.setIfInBounds_toArray, List.set_cons_zero, List.set_cons_succ]
  refine wpAnyLast_take (i := 5) (oi := ({ dst := (some 8), op := (Op.load 3 (Operand.tmp 1)), type := 3, pos := "disk.go:90", after := #[], guard := none } : Oper)) (v := ?_) rfl (by kernel_rfl) (by kernel_rfl) (by kernel_rfl) (by kernel_rfl) (by kernel_rfl) (fun _ _ _ h => h) (Or.inl ⟨by rfl, ?_⟩) hHeld ?_
  rotate_left
  · intro w_ hSw; (try dsimp only at hSw); go_simp; try (with_reducible rfl)
  try simp only [Act.put, List.setIfInBounds_toArray, List.set_cons_zero, List.set_cons_succ]
  refine wpAnyLast_take (i := 6) (oi := ({ dst := (some 9), op := (Op.load 27 (Operand.tmp 2)), type := 27, pos := "disk.go:90", after := #[], guard := none } : Oper)) (v := ?_) rfl (by kernel_rfl) (by kernel_rfl) (by kernel_rfl) (by kernel_rfl) (by kernel_rfl) (fun _ _ _ h => h) (Or.inl ⟨by rfl, ?_⟩) hHeld ?_
  rotate_left
  · intro w_ hSw; (try dsimp only at hSw); go_simp; try (with_reducible rfl)
  try simp only [Act.put, List.setIfInBounds_toArray, List.set_cons_zero, List.set_cons_succ]
  refine wpAnyLast_take (i := 7) (oi := ({ dst := (some 10), op := (Op.sliceToArrayPointer 68 (Operand.tmp 9)), type := 0, pos := "disk.go:90", after := #[{ on := 6, ground := Ground.data }], guard := none } : Oper)) (v := ?_) rfl (by kernel_rfl) (by kernel_rfl) (by kernel_rfl) (by kernel_rfl) (by kernel_rfl) (fun _ _ _ h => h) (Or.inl ⟨by rfl, ?_⟩) hHeld ?_
  rotate_left
  · intro w_ hSw; (try dsimp only at hSw); go_simp; try (with_reducible rfl)
  try simp only [Act.put, List.setIfInBounds_toArray, List.set_cons_zero, List.set_cons_succ]
  refine wpAnyLast_take (i := 8) (oi := ({ dst := (some 11), op := (Op.load 68 (Operand.tmp 10)), type := 68, pos := "disk.go:90", after := #[{ on := 7, ground := Ground.data }], guard := none } : Oper)) (v := _) rfl (by kernel_rfl) (by kernel_rfl) (by kernel_rfl) (by kernel_rfl) (by kernel_rfl) (fun _ _ _ h => h) (yieldsIf_load_mid (by rfl) _ _ rfl _ _ rfl _ _ (fun w hw => hw.2.2.2.2) hu rfl hi) hHeld ?_
  try simp only [Act.put, List.setIfInBounds_toArray, List.set_cons_zero, List.set_cons_succ]
  refine wpAnyLast_take (i := 9) (oi := ({ dst := (some 12), op := (Op.build 70 #[(0, (Operand.tmp 8)), (1, (Operand.tmp 11))]), type := 70, pos := "disk.go:90", after := #[{ on := 5, ground := Ground.data }, { on := 8, ground := Ground.data }], guard := none } : Oper)) (v := .agg (lc n b).toArray) rfl (by kernel_rfl) (by kernel_rfl) (by kernel_rfl) (by kernel_rfl) (by kernel_rfl) (fun _ _ _ h => h) (Or.inl ⟨by rfl, fun w_ hSw => run_op_build _ _ (by rfl) [(0, .int .i64 n), (1, .agg (u8c b).toArray)] (by rfl) (built_l n b HBL.out)⟩) hHeld ?_
  try simp only [Act.put, List.setIfInBounds_toArray, List.set_cons_zero, List.set_cons_succ]
  refine wpAnyLast_ready (rs := [10]) (by kernel_rfl) (by simp) ?_
  refine AllReadyL.cons (o := ({ dst := (some 13), op := (Op.buildSlice 61 1 #[(0, (Operand.tmp 12))]), type := 61, pos := "disk.go:90", after := #[{ on := 9, ground := Ground.data }], guard := none } : Oper)) rfl (by decide) (fun K hK => ?_) AllReadyL.nil
  refine st_run (by rfl) (run_op_slit n b HBL.out (x := .tmp 12) (by exact ⟨rfl, rfl⟩)) ?_; obtain ⟨w1, hw1⟩ : ∃ z, wd0.alloc (.cells (lc n b).toArray 70) = z := ⟨_, rfl⟩; obtain ⟨g1, hg1⟩ : ∃ z, wd0.heap.size = z := ⟨_, rfl⟩; have HPn := Aside0.mk (HP.out.alloc (.cells (lc n b).toArray 70 (0, 0))); rw [hw1, hg1] at HPn; rw [hw1, hg1]; clear HP hw1 hg1; have HP := HPn; clear HPn
  clear hHeld
  refine hK.out _ _ ?_ (fun hHeld => ?_)
  · (try dsimp only); first | exact ⟨blk_cell (HP.out.blk 2 rfl) 0, blk_cell (HP.out.blk 1 rfl) 0, blk_cell (HP.out.blk 0 rfl) 0, blk_cell (HP.out.blk 3 rfl) 6, range_C (HB.out _ (Hp.dropN [_, _, _, _, _, _] HP.out))⟩ | exact ⟨blk_cell (HP.out.blk 3 rfl) 0, blk_cell (HP.out.blk 2 rfl) 0, blk_cell (HP.out.blk 1 rfl) 0, blk_cell (HP.out.blk 4 rfl) 6, range_C (HB.out _ (Hp.dropN [_, _, _, _, _, _, _] HP.out))⟩
  clear hK K
  try simp only [Act.put, List.setIfInBounds_toArray, List.set_cons_zero, List.set_cons_succ]
  refine wpAnyLast_ready (rs := [11]) (by kernel_rfl) (by simp) ?_
  refine AllReadyL.cons (o := ({ dst := (some 14), op := (Op.call { callee := (Callee.builtin Builtin.append), args := #[(Operand.tmp 7), (Operand.tmp 13)], argTypes := #[61, 61] }), type := 61, pos := "disk.go:90", after := #[{ on := 4, ground := Ground.data }, { on := 10, ground := Ground.data }], guard := none } : Oper)) rfl (by decide) (fun K hK => ?_) AllReadyL.nil
  refine st_append plain_KL HP.out 6 (by rfl) _ _ 61 70 _ 72 (by rfl) Try.underlying61 infoKL rfl (by decide) (by decide) (.slice Av l.length cv) l [(n, b)] (some ⟨g1, 0, none⟩) 1 1 (by rfl) (by rfl) rfl (lc_C n b HBL.out (HP.out.blk 0 rfl)) (by have := HL.out; omega) ?_; intro v2 w2 hpn; clear HP; have HP := Aside0.mk hpn; clear hpn; obtain ⟨A2, c2, rfl⟩ := Kd.R_slice (HP.out.row 6 rfl); simp only [List.length_append, List.length_cons, List.length_nil, Nat.zero_add] at HP; (try simp only [List.length_append, List.length_cons, List.length_nil, Nat.zero_add])
  clear hHeld
  refine hK.out _ _ ?_ (fun hHeld => ?_)
  · (try dsimp only); first | exact ⟨blk_cell (HP.out.blk 2 rfl) 0, blk_cell (HP.out.blk 1 rfl) 0, blk_cell (HP.out.blk 0 rfl) 0, blk_cell (HP.out.blk 3 rfl) 6, range_C (HB.out _ (Hp.dropN [_, _, _, _, _, _] HP.out))⟩ | exact ⟨blk_cell (HP.out.blk 3 rfl) 0, blk_cell (HP.out.blk 2 rfl) 0, blk_cell (HP.out.blk 1 rfl) 0, blk_cell (HP.out.blk 4 rfl) 6, range_C (HB.out _ (Hp.dropN [_, _, _, _, _, _, _] HP.out))⟩
  clear hK K
  try simp only [Act.put, List.setIfInBounds_toArray, List.set_cons_zero, List.set_cons_succ]
  refine wpAnyLast_take (i := 12) (oi := ({ dst := (some 15), op := (Op.nilCheck (Operand.tmp 3)), type := 0, pos := "disk.go:90", after := #[{ on := 0, ground := Ground.data }, { on := 0, ground := Ground.phase }, { on := 1, ground := Ground.phase }, { on := 2, ground := Ground.phase }, { on := 3, ground := Ground.phase }, { on := 4, ground := Ground.phase }, { on := 5, ground := Ground.phase }, { on := 6, ground := Ground.phase }, { on := 7, ground := Ground.phase }, { on := 8, ground := Ground.phase }, { on := 9, ground := Ground.phase }, { on := 10, ground := Ground.phase }, { on := 11, ground := Ground.phase }], guard := none } : Oper)) (v := ?_) rfl (by kernel_rfl) (by kernel_rfl) (by kernel_rfl) (by kernel_rfl) (by kernel_rfl) (fun _ _ _ h => h) (Or.inl ⟨by rfl, ?_⟩) hHeld ?_
  rotate_left
  · intro w_ hSw; (try dsimp only at hSw); go_simp; try (with_reducible rfl)
  try simp only [Act.put, List.setIfInBounds_toArray, List.set_cons_zero, List.set_cons_succ]
  refine wpAnyLast_take (i := 13) (oi := ({ dst := (some 16), op := (Op.fieldAddr 63 (Operand.tmp 15) 4), type := 0, pos := "disk.go:90", after := #[{ on := 12, ground := Ground.data }, { on := 0, ground := Ground.phase }, { on := 1, ground := Ground.phase }, { on := 2, ground := Ground.phase }, { on := 3, ground := Ground.phase }, { on := 4, ground := Ground.phase }, { on := 5, ground := Ground.phase }, { on := 6, ground := Ground.phase }, { on := 7, ground := Ground.phase }, { on := 8, ground := Ground.phase }, { on := 9, ground := Ground.phase }, { on := 10, ground := Ground.phase }, { on := 11, ground := Ground.phase }], guard := none } : Oper)) (v := ?_) rfl (by kernel_rfl) (by kernel_rfl) (by kernel_rfl) (by kernel_rfl) (by kernel_rfl) (fun _ _ _ h => h) (Or.inl ⟨by rfl, ?_⟩) hHeld ?_
  rotate_left
  · intro w_ hSw; (try dsimp only at hSw); go_simp; try (with_reducible rfl)
  try simp only [Act.put, List.setIfInBounds_toArray, List.set_cons_zero, List.set_cons_succ]
  refine wpAnyLast_ready (rs := [14]) (by kernel_rfl) (by simp) ?_
  refine AllReadyL.cons_last (o := ({ dst := none, op := (Op.store 61 (Operand.tmp 16) (Operand.tmp 14)), type := 0, pos := "disk.go:90", after := #[{ on := 13, ground := Ground.data }, { on := 11, ground := Ground.data }, { on := 11, ground := Ground.chain }, { on := 0, ground := Ground.phase }, { on := 1, ground := Ground.phase }, { on := 2, ground := Ground.phase }, { on := 3, ground := Ground.phase }, { on := 4, ground := Ground.phase }, { on := 5, ground := Ground.phase }, { on := 6, ground := Ground.phase }, { on := 7, ground := Ground.phase }, { on := 8, ground := Ground.phase }, { on := 9, ground := Ground.phase }, { on := 10, ground := Ground.phase }, { on := 11, ground := Ground.phase }], guard := none } : Oper)) rfl (by decide) (fun K hK => ?_) AllReadyL.nil
  have hc6 := blk_cell (HP.out.blk 4 rfl) 6; have hf6 := blk_frozen (HP.out.blk 4 rfl) 6; go_simp; have HPn := Aside0.mk (HP.out.setCell 4 rfl 6 (.slice A2 (l.length + 1) c2)); clear HP hc6 hf6; have HP := HPn; clear HPn
  clear hHeld
  refine hK.out _ _ ?_
  clear hK K
  try simp only [Act.put, List.setIfInBounds_toArray, List.set_cons_zero, List.set_cons_succ]
  refine wpAnyLast_done (by kernel_rfl) ?_ _
  refine bodyPost_end (v := .tuple #[]) (by simp [results, Try.results31, go_sem]) rfl ?_
  exact ⟨rfl, .slice A2 (l.length + 1) c2, Hp.drop1 HP.out⟩
end Go.Proofs.Ytejfocliopbocaa.D
namespace Go.Proofs.Ytejfocliopbocaa.D
open Go.RowKit Go.Proofs.Ytejfocliopbocaa.XD Go.Proofs.YtejfocliopbocaaW.PrintWords Go.Proofs.YtejfocliopbocaaW.PrintLast Go.Proofs.YtejfocliopbocaaW.PrintMore Go.Proofs.YtejfocliopbocaaXe Go.Proofs.YtejfocliopbocaaXs
set_option linter.unusedVariables false
set_option linter.unusedSimpArgs false
attribute [local go_sem ↓] Go.wp_at_zero Go.wp_at_succ
def DS.readyE (S : DS) (n : Int) : Int := readyD S.out S.many n
def writeE (S : DS) (n : Int) (b : List Int) : Int := if S.readyE n ≠ 0 then S.readyE n else if b.length ≠ 64 then 2 else if S.fuse = 0 then 10 else 0
def DS.step (S : DS) : DS := { S with steps := wrap64 (S.steps + 1), fuse := burn S.fuse }
def writeS (S : DS) (n : Int) (b : List Int) : DS := if S.readyE n ≠ 0 then S else if b.length ≠ 64 then S else if S.fuse = 0 then { S with out := true } else { S.step with l := S.l ++ [(n, b)] }
theorem Hp.closeD {w0 w : World} {Rs : List Res} (S : DS) {i : Nat} {base g gm : Nat} {m : List Ent} {clock : Nat} {v : Value} (hm : look m = S.at' ∧ ∀ k, (S.at' k).length = 64) (hl : i < Rs.length)
    (h : Hp w0 w (.blk g (.cells (dC S.steps S.fuse S.out true S.many gm v).toArray 63 (0, 0)) :: .blk gm (.map (rawM m) clock) :: .row KL 70 base v S.l :: Rs.set i .none)) : Hp w0 w (Rs.set i (rDisk base g S)) :=
  Hp.closeE (p := diskP S) (diskL base g S) (gm, m, clock, v) hm i hl h
set_option maxHeartbeats 8000000 in
set_option maxRecDepth 100000 in
theorem c_write {w0 w : World} {Rs : List Res} (HP : Hp w0 w Rs) (i g : Nat) (S : DS) (hi : Rs[i]? = some (rDisk w0.heap.size g S)) (n : Int) (A : Option Addr) (c : Nat) (b : List Int) (hbl : b.length ≤ 9223372036854775807) (hB : Rd (Kd.int .u8) w0 Rs i A b.length b) (hl : S.l.length ≤ 1000000) :
    Calls Try.prog 11 #[.pointer (some ⟨g, 0, none⟩), .int .i64 n, .slice A b.length c] w fun e w' => e = .returned (.int .i64 (writeE S n b)) ∧ Hp w0 w' (Rs.set i (rDisk w0.heap.size g (writeS S n b))) := by
  obtain ⟨⟨gm, m, clock, v⟩, hm, HP0⟩ := HP.openE i hi
  have HP1 : Hp w0 w (.blk g (.cells (dC S.steps S.fuse S.out true S.many gm v).toArray 63 (0, 0)) :: .blk gm (.map (rawM m) clock) :: .row KL 70 w0.heap.size v S.l :: Rs.set i .none) := HP0
  have hil : i < Rs.length := (List.getElem?_eq_some_iff.1 hi).1
  have HPn := Aside0.mk HP1
  have HM := Aside0.mk hm
  have HI := Aside0.mk hil
  clear HP HP0 HP1 hm hil
  have HP := HPn
  clear HPn
  have HB := Aside0.mk hB
  have HL := Aside0.mk hl
  unfold writeE writeS
  have HR := Aside0.mk (fun w hg => c_ready g S.steps S.fuse S.out S.many gm v n w hg)
  clear hB hl hi
  obtain ⟨r, hr⟩ : ∃ z, S.readyE n = z := ⟨_, rfl⟩
  rw [show readyD S.out S.many n = r from hr] at HR
  rw [hr]
  obtain ⟨bl, hbl2⟩ : ∃ z, b.length = z := ⟨_, rfl⟩
  rw [hbl2] at HB hbl
  rw [hbl2]
  have HBL := Aside0.mk hbl2
  have HRR := Aside0.mk hr
  clear hbl2 hr
  by_cases h0 : r = 0
  · subst h0
    rw [if_neg (show ¬ ((0 : Int) ≠ 0) by decide), if_neg (show ¬ ((0 : Int) ≠ 0) by decide)]
    by_cases h64 : bl = 64
    · subst h64
      rw [if_neg (show ¬ ((64 : Nat) ≠ 64) by decide), if_neg (show ¬ ((64 : Nat) ≠ 64) by decide)]
      by_cases hf : S.fuse = 0
      · rw [if_pos hf, if_pos hf]
        have HF := Aside0.mk hf
        clear hf
        have hmf : ∀ (fn : Fn) (first cap : Array Value) (w : World), (Instr.makeFunc fn first cap).run Try.prog w = .ok (.func fn first cap) w := fun fn first cap w => by simp [Instr.makeFunc]
        go_enter Try.func11, Try.ntmps11
        go_wp2_with (first | ((with_reducible refine gate_dst (N := 3) rfl ?_); refine ev_boxv rfl 22 (.tmp 0) rfl (.pointer (some ⟨g, 0, none⟩)) rfl rfl ?_; intro b0 wa hge hg hb; have HPn := Aside0.mk (HP.out.newB hb hg hge); clear HP; have HP := HPn; clear HPn; clear hge hg hb) | ((with_reducible refine gate_dst (N := 4) rfl ?_); refine ev_boxv rfl 3 (.tmp 1) rfl (.int .i64 n) rfl rfl ?_; intro b1 wb hge hg hb; have HPn := Aside0.mk (HP.out.newB hb hg hge); clear HP; have HP := HPn; clear HPn; clear hge hg hb) | ((with_reducible refine gate_dst (N := 5) rfl ?_); refine ev_boxv rfl 27 (.tmp 2) rfl (.slice A 64 c) rfl rfl ?_; intro b2 wc hge hg hb; have HPn := Aside0.mk (HP.out.newB hb hg hge); clear HP; have HP := HPn; clear HPn; clear hge hg hb; have h0 := blk_cell (HP.out.blk 2 rfl) 0; have h1 := blk_cell (HP.out.blk 1 rfl) 0; have h2 := blk_cell (HP.out.blk 0 rfl) 0))
        refine (HR.out _ (HP.out.blk 3 rfl)).mono ?_; rintro e w_ ⟨rfl, rfl⟩
        go_wp2_with fail
        (try clear h0 h1 h2)
        refine (c_step0 HP.out 3 g S.steps S.fuse S.out true S.many gm v _ rfl (.inr HF.out)).mono ?_; rintro e w2 ⟨rfl, hpn⟩
        have HPn := Aside0.mk hpn
        clear HP hpn
        have HP := HPn
        clear HPn
        go_wp2_with fail
        go_ret
        exact ⟨rfl, Hp.closeD { S with out := true } HM.out HI.out (Hp.dropN [_, _, _] HP.out)⟩
      · rw [if_neg hf, if_neg hf]
        have HF := Aside0.mk hf
        clear hf
        have HO := Aside0.mk (show S.out = false by
          have h := HRR.out
          unfold DS.readyE readyD at h
          cases ho : S.out with
          | false => rfl
          | true => rw [ho] at h; simp at h)
        rw [HO.out] at HP HR
        have HEN := Aside0.mk (fun w b0 b1 b2 => enters_fn (P := Try.prog) Try.func31 (by kernel_rfl) rfl #[.pointer (some ⟨b0, 0, none⟩), .pointer (some ⟨b1, 0, none⟩), .pointer (some ⟨b2, 0, none⟩)] w)
        obtain ⟨Ab, Ao, hA⟩ := C_addr (HB.out w .none (Hp.dropN [_, _, _] HP.out)) (by decide) (by rw [HBL.out])
        subst hA
        have hmf : ∀ (fn : Fn) (first cap : Array Value) (w : World), (Instr.makeFunc fn first cap).run Try.prog w = .ok (.func fn first cap) w := fun fn first cap w => by simp [Instr.makeFunc]
        go_enter Try.func11, Try.ntmps11
        go_wp2_with (first | ((with_reducible refine gate_dst (N := 3) rfl ?_); refine ev_boxv rfl 22 (.tmp 0) rfl (.pointer (some ⟨g, 0, none⟩)) rfl rfl ?_; intro b0 wa hge hg hb; have HPn := Aside0.mk (HP.out.newB hb hg hge); clear HP; have HP := HPn; clear HPn; clear hge hg hb) | ((with_reducible refine gate_dst (N := 4) rfl ?_); refine ev_boxv rfl 3 (.tmp 1) rfl (.int .i64 n) rfl rfl ?_; intro b1 wb hge hg hb; have HPn := Aside0.mk (HP.out.newB hb hg hge); clear HP; have HP := HPn; clear HPn; clear hge hg hb) | ((with_reducible refine gate_dst (N := 5) rfl ?_); refine ev_boxv rfl 27 (.tmp 2) rfl (.slice (some ⟨Ab, Ao, none⟩) 64 c) rfl rfl ?_; intro b2 wc hge hg hb; have HPn := Aside0.mk (HP.out.newB hb hg hge); clear HP; have HP := HPn; clear HPn; clear hge hg hb; have h0 := blk_cell (HP.out.blk 2 rfl) 0; have h1 := blk_cell (HP.out.blk 1 rfl) 0; have h2 := blk_cell (HP.out.blk 0 rfl) 0))
        refine (HR.out _ (HP.out.blk 3 rfl)).mono ?_; rintro e w_ ⟨rfl, rfl⟩
        go_wp2_with fail
        (try clear h0 h1 h2)
        refine (c_step1 (Q := fun w' => ∃ v', Hp w0 w' (.blk b2 (.cells #[.slice (some ⟨Ab, Ao, none⟩) 64 c] 27 (0, 0)) :: .blk b1 (.cells #[.int .i64 n] 3 (0, 0)) :: .blk b0 (.cells #[.pointer (some ⟨g, 0, none⟩)] 22 (0, 0)) :: .blk g (.cells (dC (wrap64 (S.steps + 1)) (burn S.fuse) false true S.many gm v').toArray 63 (0, 0)) :: .blk gm (.map (rawM m) clock) :: .row KL 70 w0.heap.size v' (S.l ++ [(n, b)]) :: Rs.set i .none)) HP.out 3 g S.steps S.fuse true S.many gm v _ _ rfl HF.out (fun w => HEN.out w b0 b1 b2) (fun w1 h1 => (c_write1 g gm (wrap64 (S.steps + 1)) (burn S.fuse) S.many (.map (rawM m) clock) v n Ab Ao c b (by rw [HBL.out]) S.l HL.out b0 b1 b2 h1 (fun w hw => HB.out w .none hw)).mono fun e w' h => h)).mono ?_; rintro e w2 ⟨rfl, v', hpn⟩
        have HPn := Aside0.mk hpn
        clear HP hpn
        have HP := HPn
        clear HPn
        go_wp2_with fail
        go_ret
        refine ⟨rfl, Hp.closeD { S.step with l := S.l ++ [(n, b)] } (v := v') HM.out HI.out (by have h := Hp.dropN [_, _, _] HP.out; rw [← HO.out] at h; exact h)⟩
    · rw [if_pos h64, if_pos h64]
      have hd : ((bl : Int) != 64) = true := bne_iff_ne.2 (by omega)
      clear h64
      go_enter Try.func11, Try.ntmps11
      go_wp2_with (first | ((with_reducible refine gate_dst (N := 3) rfl ?_); refine ev_boxv rfl 22 (.tmp 0) rfl (.pointer (some ⟨g, 0, none⟩)) rfl rfl ?_; intro b0 wa hge hg hb; have HPn := Aside0.mk (HP.out.newB hb hg hge); clear HP; have HP := HPn; clear HPn; clear hge hg hb) | ((with_reducible refine gate_dst (N := 4) rfl ?_); refine ev_boxv rfl 3 (.tmp 1) rfl (.int .i64 n) rfl rfl ?_; intro b1 wb hge hg hb; have HPn := Aside0.mk (HP.out.newB hb hg hge); clear HP; have HP := HPn; clear HPn; clear hge hg hb) | ((with_reducible refine gate_dst (N := 5) rfl ?_); refine ev_boxv rfl 27 (.tmp 2) rfl (.slice A bl c) rfl rfl ?_; intro b2 wc hge hg hb; have HPn := Aside0.mk (HP.out.newB hb hg hge); clear HP; have HP := HPn; clear HPn; clear hge hg hb; have h0 := blk_cell (HP.out.blk 2 rfl) 0; have h1 := blk_cell (HP.out.blk 1 rfl) 0; have h2 := blk_cell (HP.out.blk 0 rfl) 0))
      refine (HR.out _ (HP.out.blk 3 rfl)).mono ?_; rintro e w_ ⟨rfl, rfl⟩
      go_wp2_with fail
      go_ret
      exact ⟨rfl, Hp.closeD S HM.out HI.out (Hp.dropN [_, _, _] HP.out)⟩
  · rw [if_pos h0, if_pos h0]
    have hd : (r != 0) = true := bne_iff_ne.2 h0
    clear h0
    go_enter Try.func11, Try.ntmps11
    go_wp2_with (first | ((with_reducible refine gate_dst (N := 3) rfl ?_); refine ev_boxv rfl 22 (.tmp 0) rfl (.pointer (some ⟨g, 0, none⟩)) rfl rfl ?_; intro b0 wa hge hg hb; have HPn := Aside0.mk (HP.out.newB hb hg hge); clear HP; have HP := HPn; clear HPn; clear hge hg hb) | ((with_reducible refine gate_dst (N := 4) rfl ?_); refine ev_boxv rfl 3 (.tmp 1) rfl (.int .i64 n) rfl rfl ?_; intro b1 wb hge hg hb; have HPn := Aside0.mk (HP.out.newB hb hg hge); clear HP; have HP := HPn; clear HPn; clear hge hg hb) | ((with_reducible refine gate_dst (N := 5) rfl ?_); refine ev_boxv rfl 27 (.tmp 2) rfl (.slice A bl c) rfl rfl ?_; intro b2 wc hge hg hb; have HPn := Aside0.mk (HP.out.newB hb hg hge); clear HP; have HP := HPn; clear HPn; clear hge hg hb; have h0 := blk_cell (HP.out.blk 2 rfl) 0; have h1 := blk_cell (HP.out.blk 1 rfl) 0; have h2 := blk_cell (HP.out.blk 0 rfl) 0))
    refine (HR.out _ (HP.out.blk 3 rfl)).mono ?_; rintro e w_ ⟨rfl, rfl⟩
    go_wp2_with fail
    go_ret
    exact ⟨rfl, Hp.closeD S HM.out HI.out (Hp.dropN [_, _, _] HP.out)⟩
end Go.Proofs.Ytejfocliopbocaa.D
namespace Go.Proofs.Ytejfocliopbocaa.D
open Go.RowKit Go.Proofs.Ytejfocliopbocaa.XD Go.Proofs.YtejfocliopbocaaW.PrintWords Go.Proofs.YtejfocliopbocaaW.PrintLast Go.Proofs.YtejfocliopbocaaW.PrintMore Go.Proofs.YtejfocliopbocaaXe Go.Proofs.YtejfocliopbocaaXs
set_option linter.unusedVariables false
set_option linter.unusedSimpArgs false
attribute [local go_sem ↓] Go.wp_at_zero Go.wp_at_succ
/-- what is put, one behind the other -/
def putF (at' : Int → List Int) (l : List (Int × List Int)) : Int → List Int := l.foldl (fun f p j => if p.1 = j then p.2 else f j) at'
theorem putF_snoc (at' : Int → List Int) (l : List (Int × List Int)) (n : Int) (b : List Int) : putF at' (l ++ [(n, b)]) = fun j => if n = j then b else putF at' l j := by
  unfold putF
  rw [List.foldl_append]
  rfl
theorem take_snocD {α : Type} (l : List α) (k : Nat) (x : α) (h : l[k]? = some x) : l.take (k + 1) = l.take k ++ [x] := by
  obtain ⟨h1, h2⟩ := List.getElem?_eq_some_iff.1 h
  rw [List.take_succ_eq_append_getElem h1, h2]
theorem lc_len (n : Int) (b : List Int) (hb : b.length = 64) : (lc n b).length = 65 := by rw [lc, List.length_cons, u8c_len, hb]
/-- a row's element is loaded whole -/
theorem ev_elem {P : Program} {ops : Array Oper} {rest : List Oper} {o : Oper} {a : Act} {Q : Exit → Act → World → Prop} {W : World} (hgd : o.guard = none) (ty : TypeId) (x : Operand) (ho : o.op = .load ty x) (b off : Nat) (hx : a.eval x = .pointer (some ⟨b, off, none⟩)) (cs : List Value) (hc : W.rangeAt b off cs) {d : TypeDesc} (hu : P.underlying ty = some d) (hd : d.isRow = true) (hi : (P.info? ty).map (·.size) = some cs.length)
    (h : wpList P ops Q rest (a.put o.dst (.agg cs.toArray)) W) : wpList P ops Q (o :: rest) a W := wpList_load_mid hgd ty x ho b off hx cs d hc hu hd hi h
theorem range_tail {w : World} {g : Nat} {x : Value} {cs : List Value} {t : TypeId} {fr : Nat × Nat} (hg : w.heap[g]? = some (.cells (x :: cs).toArray t fr)) : w.rangeAt g 1 cs := fun j v hv => by
  rw [cell_of_row w g _ _ t fr hg, Nat.add_comm]
  simpa using hv
section
variable {ops : Array Oper} {o : Oper} {a : Act} {Q : Exit → Act → World → Prop} {W w0 : World} {Rs : List Res}
theorem st_put {Kc : Act → World → Prop} (HP : Hp w0 W Rs) (i : Nat) {gm : Nat} {m : List Ent} {clock : Nat} (hi : Rs[i]? = some (.blk gm (.map (rawM m) clock))) (hw : Region.wanted o (yielded ops a.tmps) = true) (x y z : Operand) (ho : o.op = .mapUpdate 60 x y z) (hx : a.eval x = .map (some gm)) {k : Int} (hy : a.eval y = .int .i64 k) {b : List Int} (hz : a.eval z = .agg (u8c b).toArray)
    (h : ∀ clock' w1, Hp w0 w1 (Rs.set i (.blk gm (.map (rawM (putM m k b clock)) clock'))) → Kc (a.put o.dst undef) w1) : if Region.wanted o (yielded ops a.tmps) = true then Oper.wp Try.prog o a W Kc Q else Kc (a.put o.dst undef) W := by
  obtain ⟨clock', hr⟩ := run_put (HP.blk i hi) k b
  rw [if_pos hw]
  unfold Oper.wp execOp
  simp only [ho, hx, hy, hz, Sem.run_bind, hr, Result.andThen_ok]
  exact h clock' _ (Hp.setObj HP i hi)
end
set_option maxHeartbeats 8000000 in
set_option maxRecDepth 100000 in
theorem c_flush1 {w0 w : World} {Rs : List Res} (g gm : Nat) (steps fuse : Int) (many : Int) (m : List Ent) (clock : Nat) (v : Value) (l : List (Int × List Int)) (hl : l.length ≤ 1000000) (b0 : Nat)
    (HP : Hp w0 w (.blk b0 (.cells #[.pointer (some ⟨g, 0, none⟩)] 22 (0, 0)) :: .blk g (.cells (dC steps fuse false true many gm v).toArray 63 (0, 0)) :: .blk gm (.map (rawM m) clock) :: .row KL 70 w0.heap.size v l :: Rs)) :
    Calls Try.prog 33 #[.pointer (some ⟨b0, 0, none⟩)] w fun e w' => e = .returned (.tuple #[]) ∧
      ∃ m' clock', look m' = putF (look m) l ∧ Hp w0 w' (.blk b0 (.cells #[.pointer (some ⟨g, 0, none⟩)] 22 (0, 0)) :: .blk g (.cells (dC steps fuse false true many gm (.slice none 0 0)).toArray 63 (0, 0)) :: .blk gm (.map (rawM m') clock') :: .row KL 70 w0.heap.size (.slice none 0 0) [] :: Rs) := by
  obtain ⟨Av, cv, rfl⟩ := Kd.R_slice (HP.row 3 rfl)
  have HPn := Aside0.mk HP
  clear HP
  have HP := HPn
  clear HPn
  have HL := Aside0.mk hl
  have hll : (l.length : Int) ≤ 1000000 := by omega
  clear hl
  have h0 := blk_cell (HP.out.blk 0 rfl) 0
  have h6 : w.cell? ⟨g, 6, none⟩ = some (.slice Av l.length cv) := blk_cell (HP.out.blk 1 rfl) 6
  go_enter Try.func33, Try.ntmps33
  go_wp2_with fail
  clear h0 h6
  go_loopg [8] l.length (fun kq v8 w' => ∃ (j : Nat) (x : Int) (m' : List Ent) (clock' : Nat), v8 = .int .i64 x ∧ Aside0 (x = (j : Int)) ∧ Aside0 (kq + j = l.length) ∧ Aside0 (look m' = putF (look m) (l.take j)) ∧ Aside0 (Hp w0 w' (.blk b0 (.cells #[.pointer (some ⟨g, 0, none⟩)] 22 (0, 0)) :: .blk g (.cells (dC steps fuse false true many gm (.slice Av l.length cv)).toArray 63 (0, 0)) :: .blk gm (.map (rawM m') clock') :: .row KL 70 w0.heap.size (.slice Av l.length cv) l :: Rs)))
  case atStart => exact ⟨0, 0, m, clock, rfl, ⟨rfl⟩, ⟨rfl⟩, ⟨rfl⟩, HP⟩
  clear HP
  obtain ⟨j, x, m', clock', rfl, HX, HK, HM, HP⟩ := hrel
  have hx := HX.out
  by_cases c1 : j < l.length
  · have d1 : decide (x < (l.length : Int)) = true := decide_eq_true (by omega)
    have ex : IntKind.i64.wrap (x + 1) = x + 1 := IntWalk.i64_in _ (by omega)
    have p0 : 0 ≤ x := by omega
    have q0 : x < (l.length : Int) := by omega
    obtain ⟨⟨n, b⟩, hnb⟩ : ∃ p, l[j]? = some p := ⟨_, List.getElem?_eq_getElem c1⟩
    have hC := (Kd.R_reads' (HP.out.row 3 rfl)).2.2
    obtain ⟨Ab, Ao, rfl⟩ := C_addrK (by decide) hC (by omega)
    obtain ⟨cs, ⟨hcs, hbl⟩, hra⟩ := range_K hC hnb
    have hcs2 : cs = lc n b := hcs
    subst hcs2
    have hxt : x.toNat = j := by omega
    have hra2 : ∀ w', Hp w0 w' (.blk b0 (.cells #[.pointer (some ⟨g, 0, none⟩)] 22 (0, 0)) :: .blk g (.cells (dC steps fuse false true many gm (.slice (some ⟨Ab, Ao, none⟩) l.length cv)).toArray 63 (0, 0)) :: .blk gm (.map (rawM m') clock') :: .row KL 70 w0.heap.size (.slice (some ⟨Ab, Ao, none⟩) l.length cv) l :: Rs) → w'.rangeAt Ab (Ao + x.toNat * 65) (lc n b) := fun w' h => by
      obtain ⟨cs, ⟨hcs, _⟩, hra⟩ := range_K (Kd.R_reads' (h.row 3 rfl)).2.2 hnb
      have hcs2 : cs = lc n b := hcs
      rw [hxt, ← hcs2]
      exact hra
    have HRA := Aside0.mk hra2
    have HNB := Aside0.mk hnb
    have HBL := Aside0.mk hbl
    have hi65 : (Try.prog.info? 70).map (·.size) = some (lc n b).length := by rw [lc_len n b hbl]; kernel_rfl
    have hi64 : (Try.prog.info? 68).map (·.size) = some (u8c b).length := by rw [u8c_len, hbl]; kernel_rfl
    have hu := Try.underlying68
    clear hx c1 hC hra hra2 hxt hnb hbl
    go_wp2_with (first | ((with_reducible refine gate_dst (N := 11) rfl ?_); refine ev_elem rfl 70 (.tmp 10) rfl Ab (Ao + x.toNat * 65) rfl (lc n b) (HRA.out _ HP.out) Try.underlying70 rfl hi65 ?_) | ((with_reducible refine gate_dst (N := 2) rfl ?_); refine ev_alloc rfl 70 rfl (.agg (lc 0 s64).toArray) (by kernel_rfl) ?_; intro gx wa hge hg hb; have HPn := Aside0.mk (HP.out.newB hb hg hge); clear HP; have HP := HPn; clear HPn; clear hge hg hb) | ((with_reducible refine gate_store (t := 70) (p := 2) rfl ?_); refine ev_store rfl 70 (.tmp 2) (.tmp 11) rfl rfl _ rfl (cells := (lc n b).toArray) rfl (HP.out.blk 0 rfl) (by rw [List.size_toArray]; exact hi65) (show (lc 0 s64).toArray.size = (lc n b).toArray.size from by rw [List.size_toArray, List.size_toArray, lc_len n b HBL.out]; rfl) (all_oneCell_toArray (one_lc n b)) ?_; intro wb hg hgr; have HPn := Aside0.mk (HP.out.setB 0 rfl hgr hg); clear HP; have HP := HPn; clear HPn; clear hg hgr))
    refine held_named (S := (fun w' => w'.cell? ⟨b0, 0, none⟩ = some (.pointer (some ⟨g, 0, none⟩)) ∧ w'.cell? ⟨g, 5, none⟩ = some (.map (some gm)) ∧ w'.cell? ⟨gx, 0, none⟩ = some (.int .i64 n) ∧ w'.rangeAt gx 1 (u8c b))) (by kernel_rfl) (fun wd3 hwd3 => ?_)
    have HPn := Aside0.mk (HP.out.drewN 1)
    rw [← World.drew_is_drewN, hwd3] at HPn
    clear HP hwd3
    have HP := HPn
    clear HPn
    refine ⟨by (try dsimp only); exact ⟨blk_cell (HP.out.blk 1 rfl) 0, blk_cell (HP.out.blk 2 rfl) 5, blk_cell (HP.out.blk 0 rfl) 0, range_tail (HP.out.blk 0 rfl)⟩, fun hHeld => ?_⟩
    refine wpAnyH_take (i := 0) (oi := ({ dst := (some 12), op := (Op.load 22 (Operand.tmp 0)), type := 22, pos := "disk.go:99", after := #[], guard := none } : Oper)) (v := ?_) rfl (by kernel_rfl) (by kernel_rfl) (by kernel_rfl) (fun _ _ _ h => h) (Or.inl ⟨by rfl, ?_⟩) hHeld ?_
    rotate_left
    · intro w_ hSw; (try dsimp only at hSw); go_simp; try (with_reducible rfl)
    try simp only [Act.put, List.setIfInBounds_toArray, List.set_cons_zero, List.set_cons_succ]
    refine wpAnyH_take (i := 1) (oi := ({ dst := (some 13), op := (Op.nilCheck (Operand.tmp 12)), type := 0, pos := "disk.go:99", after := #[{ on := 0, ground := Ground.data }], guard := none } : Oper)) (v := ?_) rfl (by kernel_rfl) (by kernel_rfl) (by kernel_rfl) (fun _ _ _ h => h) (Or.inl ⟨by rfl, ?_⟩) hHeld ?_
    rotate_left
    · intro w_ hSw; (try dsimp only at hSw); go_simp; try (with_reducible rfl)
    try simp only [Act.put, List.setIfInBounds_toArray, List.set_cons_zero, List.set_cons_succ]
    refine wpAnyH_take (i := 2) (oi := ({ dst := (some 14), op := (Op.fieldAddr 63 (Operand.tmp 13) 3), type := 0, pos := "disk.go:99", after := #[{ on := 1, ground := Ground.data }], guard := none } : Oper)) (v := ?_) rfl (by kernel_rfl) (by kernel_rfl) (by kernel_rfl) (fun _ _ _ h => h) (Or.inl ⟨by rfl, ?_⟩) hHeld ?_
    rotate_left
    · intro w_ hSw; (try dsimp only at hSw); go_simp; try (with_reducible rfl)
    try simp only [Act.put, List.setIfInBounds_toArray, List.set_cons_zero, List.set_cons_succ]
    refine wpAnyH_take (i := 3) (oi := ({ dst := (some 15), op := (Op.load 60 (Operand.tmp 14)), type := 60, pos := "disk.go:99", after := #[{ on := 2, ground := Ground.data }], guard := none } : Oper)) (v := ?_) rfl (by kernel_rfl) (by kernel_rfl) (by kernel_rfl) (fun _ _ _ h => h) (Or.inl ⟨by rfl, ?_⟩) hHeld ?_
    rotate_left
    · intro w_ hSw; (try dsimp only at hSw); go_simp; try (with_reducible rfl)
    try simp only [Act.put, List.setIfInBounds_toArray, List.set_cons_zero, List.set_cons_succ]
    refine wpAnyH_take (i := 4) (oi := ({ dst := (some 16), op := (Op.fieldAddr 70 (Operand.tmp 2) 0), type := 0, pos := "disk.go:99", after := #[], guard := none } : Oper)) (v := ?_) rfl (by kernel_rfl) (by kernel_rfl) (by kernel_rfl) (fun _ _ _ h => h) (Or.inl ⟨by rfl, ?_⟩) hHeld ?_
    rotate_left
    · intro w_ hSw; (try dsimp only at hSw); go_simp; try (with_reducible rfl)
    try simp only [Act.put, List.setIfInBounds_toArray, List.set_cons_zero, List.set_cons_succ]
    refine wpAnyH_take (i := 5) (oi := ({ dst := (some 17), op := (Op.load 3 (Operand.tmp 16)), type := 3, pos := "disk.go:99", after := #[{ on := 4, ground := Ground.data }], guard := none } : Oper)) (v := ?_) rfl (by kernel_rfl) (by kernel_rfl) (by kernel_rfl) (fun _ _ _ h => h) (Or.inl ⟨by rfl, ?_⟩) hHeld ?_
    rotate_left
    · intro w_ hSw; (try dsimp only at hSw); go_simp; try (with_reducible rfl)
    try simp only [Act.put, List.setIfInBounds_toArray, List.set_cons_zero, List.set_cons_succ]
    refine wpAnyH_take (i := 6) (oi := ({ dst := (some 18), op := (Op.fieldAddr 70 (Operand.tmp 2) 1), type := 0, pos := "disk.go:99", after := #[], guard := none } : Oper)) (v := ?_) rfl (by kernel_rfl) (by kernel_rfl) (by kernel_rfl) (fun _ _ _ h => h) (Or.inl ⟨by rfl, ?_⟩) hHeld ?_
    rotate_left
    · intro w_ hSw; (try dsimp only at hSw); go_simp; try (with_reducible rfl)
    try simp only [Act.put, List.setIfInBounds_toArray, List.set_cons_zero, List.set_cons_succ]
    refine wpAnyH_take (i := 7) (oi := ({ dst := (some 19), op := (Op.load 68 (Operand.tmp 18)), type := 68, pos := "disk.go:99", after := #[{ on := 6, ground := Ground.data }], guard := none } : Oper)) (v := _) rfl (by kernel_rfl) (by kernel_rfl) (by kernel_rfl) (fun _ _ _ h => h) (yieldsIf_load_mid (by rfl) _ _ rfl _ _ rfl _ _ (fun w hw => hw.2.2.2) hu rfl hi64) hHeld ?_
    try simp only [Act.put, List.setIfInBounds_toArray, List.set_cons_zero, List.set_cons_succ]
    refine wpAnyH_ready (rs := [8]) (by kernel_rfl) (by simp) ?_
    refine AllReadyH.cons (o := ({ dst := none, op := (Op.mapUpdate 60 (Operand.tmp 15) (Operand.tmp 17) (Operand.tmp 19)), type := 0, pos := "disk.go:99", after := #[{ on := 3, ground := Ground.data }, { on := 5, ground := Ground.data }, { on := 7, ground := Ground.data }, { on := 0, ground := Ground.phase }, { on := 1, ground := Ground.phase }, { on := 2, ground := Ground.phase }, { on := 3, ground := Ground.phase }, { on := 4, ground := Ground.phase }, { on := 5, ground := Ground.phase }, { on := 6, ground := Ground.phase }, { on := 7, ground := Ground.phase }], guard := none } : Oper)) rfl (fun K hK => ?_) AllReadyH.nil
    refine st_put HP.out 3 rfl (by rfl) (.tmp 15) (.tmp 17) (.tmp 19) (by rfl) (by rfl) (by rfl) (by rfl) ?_; intro clock2 w3 hpn; clear HP; have HP := Aside0.mk hpn; clear hpn
    clear hHeld
    refine hK.out _ _ ?_ (fun hHeld => ?_)
    · (try dsimp only); exact ⟨blk_cell (HP.out.blk 1 rfl) 0, blk_cell (HP.out.blk 2 rfl) 5, blk_cell (HP.out.blk 0 rfl) 0, range_tail (HP.out.blk 0 rfl)⟩
    clear hK K
    try simp only [Act.put, List.setIfInBounds_toArray, List.set_cons_zero, List.set_cons_succ]
    refine wpAnyH_done (by kernel_rfl) ?_ _
    have HPd := Aside0.mk (Hp.drop1 HP.out)
    clear HP
    go_wp2_with fail
    go_roundg (gk - 1)
    case measure => have := HK.out; have := (List.getElem?_eq_some_iff.1 HNB.out).1; omega
    case rel => exact ⟨j + 1, x + 1, putM m' n b clock', clock2, rfl, ⟨by have := HX.out; omega⟩, ⟨by have := HK.out; have := (List.getElem?_eq_some_iff.1 HNB.out).1; omega⟩, ⟨by rw [take_snocD l j _ HNB.out, putF_snoc, ← HM.out]; funext q; exact look_put m' n q b clock'⟩, HPd⟩
  · have d1 : decide (x < (l.length : Int)) = false := decide_eq_false (by omega)
    have HE := Aside0.mk (show look m' = putF (look m) l by rw [HM.out, List.take_of_length_le (by omega)])
    have HPn := Aside0.mk (HP.out.as 3 rfl (R' := .row KL 70 w0.heap.size (.slice none 0 0) []) fun F hF => ⟨Kd.R_nil _ _ _ _ _, hF.2⟩)
    clear HP
    have HP := HPn
    clear HPn
    have h0 := blk_cell (HP.out.blk 0 rfl) 0
    have h6 : wr.cell? ⟨g, 6, none⟩ = some (.slice Av l.length cv) := blk_cell (HP.out.blk 1 rfl) 6
    have hf6 := blk_frozen (HP.out.blk 1 rfl) 6
    clear hx c1
    go_wp2_with fail
    refine bodyPost_end (v := .tuple #[]) (by simp [results, Try.results33, go_sem]) rfl ?_
    exact ⟨rfl, m', clock', HE.out, HP.out.setCell 1 rfl 6 (.slice none 0 0)⟩
end Go.Proofs.Ytejfocliopbocaa.D
namespace Go.Proofs.Ytejfocliopbocaa.D
open Go.RowKit Go.Proofs.Ytejfocliopbocaa.XD Go.Proofs.YtejfocliopbocaaW.PrintWords Go.Proofs.YtejfocliopbocaaW.PrintLast Go.Proofs.YtejfocliopbocaaW.PrintMore Go.Proofs.YtejfocliopbocaaXe Go.Proofs.YtejfocliopbocaaXs
set_option linter.unusedVariables false
set_option linter.unusedSimpArgs false
attribute [local go_sem ↓] Go.wp_at_zero Go.wp_at_succ
def flushE (S : DS) : Int := if S.out = true ∨ S.fuse = 0 then 10 else 0
def flushS (S : DS) : DS := if S.out = true ∨ S.fuse = 0 then { S with out := true } else { S.step with at' := putF S.at' S.l, l := [] }
theorem putF_len : ∀ (l : List (Int × List Int)) (f : Int → List Int), (∀ k, (f k).length = 64) → (∀ p ∈ l, p.2.length = 64) → ∀ k, (putF f l k).length = 64
  | [], f, h, _, k => h k
  | p :: l, f, h, hl, k => by
    unfold putF
    rw [List.foldl_cons]
    refine putF_len l _ (fun j => ?_) (fun q hq => hl q (List.mem_cons_of_mem _ hq)) k
    split
    · exact hl p List.mem_cons_self
    · exact h j
theorem KL_len {w : World} {A : Option Addr} {n : Nat} {l : List (Int × List Int)} (h : KL.C w A n l) : ∀ p ∈ l, p.2.length = 64 := by
  intro p hp
  obtain ⟨j, hj, rfl⟩ := List.getElem_of_mem hp
  obtain ⟨b, o, rfl⟩ := C_addrK (by decide) h (by have := h.1; omega)
  obtain ⟨cs, ⟨_, h2⟩, _⟩ := range_K h (List.getElem?_eq_getElem hj)
  exact h2
theorem one_u8c (b : List Int) : ∀ u ∈ u8c b, u.oneCell' = true := by
  intro u h
  obtain ⟨x, _, rfl⟩ := List.mem_map.1 h
  rfl
theorem run_op_look {w : World} {g : Nat} {m : List Ent} {clock : Nat} (hg : w.heap[g]? = some (.map (rawM m) clock)) {o : Oper} {a : Act} {x y : Operand} {k : Int} (ho : o.op = .lookup 60 x y false) (hx : a.eval x = .map (some g)) (hy : a.eval y = .int .i64 k) : (execOp a.eval o).run Try.prog w = .ok (.value (.agg (u8c (look m k)).toArray)) w := by
  unfold execOp
  simp only [ho, hx, hy, Sem.run_bind, run_look hg k, Result.andThen_ok]
  rfl
set_option maxHeartbeats 8000000 in
set_option maxRecDepth 100000 in
theorem c_flush {w0 w : World} {Rs : List Res} (HP : Hp w0 w Rs) (i g : Nat) (S : DS) (hi : Rs[i]? = some (rDisk w0.heap.size g S)) (hl : S.l.length ≤ 1000000) :
    Calls Try.prog 12 #[.pointer (some ⟨g, 0, none⟩)] w fun e w' => e = .returned (.int .i64 (flushE S)) ∧ Hp w0 w' (Rs.set i (rDisk w0.heap.size g (flushS S))) := by
  obtain ⟨⟨gm, m, clock, v⟩, hm, HP0⟩ := HP.openE i hi
  have HP1 : Hp w0 w (.blk g (.cells (dC S.steps S.fuse S.out true S.many gm v).toArray 63 (0, 0)) :: .blk gm (.map (rawM m) clock) :: .row KL 70 w0.heap.size v S.l :: Rs.set i .none) := HP0
  have hil : i < Rs.length := (List.getElem?_eq_some_iff.1 hi).1
  have HPn := Aside0.mk HP1
  have HM := Aside0.mk hm
  have HI := Aside0.mk hil
  clear HP HP0 HP1 hm hil
  have HP := HPn
  clear HPn
  have HL := Aside0.mk hl
  unfold flushE flushS
  have HR := Aside0.mk (fun w hg => c_none g S.steps S.fuse S.out S.many gm v w hg)
  have HLN := Aside0.mk (show ∀ p ∈ S.l, p.2.length = 64 from by obtain ⟨A, c, rfl⟩ := Kd.R_slice (HP.out.row 2 rfl); exact KL_len (Kd.R_reads' (HP.out.row 2 rfl)).2.2)
  clear hl hi
  have HEN := Aside0.mk (fun w b0 => enters_fn (P := Try.prog) Try.func33 (by kernel_rfl) rfl #[.pointer (some ⟨b0, 0, none⟩)] w)
  have hmf : ∀ (fn : Fn) (first cap : Array Value) (w : World), (Instr.makeFunc fn first cap).run Try.prog w = .ok (.func fn first cap) w := fun fn first cap w => by simp [Instr.makeFunc]
  by_cases hc : S.out = true ∨ S.fuse = 0
  · rw [if_pos hc, if_pos hc]
    have HC := Aside0.mk hc
    clear hc
    go_enter Try.func12, Try.ntmps12
    go_wp2_with (first | ((with_reducible refine gate_dst (N := 1) rfl ?_); refine ev_boxv rfl 22 (.tmp 0) rfl (.pointer (some ⟨g, 0, none⟩)) rfl rfl ?_; intro b0 wa hge hg hb; have HPn := Aside0.mk (HP.out.newB hb hg hge); clear HP; have HP := HPn; clear HPn; clear hge hg hb; have h0 := blk_cell (HP.out.blk 0 rfl) 0))
    refine (HR.out _ (HP.out.blk 1 rfl)).mono ?_; rintro e w_ ⟨rfl, rfl⟩
    go_wp2_with fail
    clear h0
    refine (c_step0 HP.out 1 g S.steps S.fuse S.out true S.many gm v _ rfl HC.out).mono ?_; rintro e w2 ⟨rfl, hpn⟩
    have HPn := Aside0.mk hpn
    clear HP hpn
    have HP := HPn
    clear HPn
    go_wp2_with fail
    go_ret
    exact ⟨rfl, Hp.closeD { S with out := true } HM.out HI.out (Hp.dropN [_] HP.out)⟩
  · rw [if_neg hc, if_neg hc]
    have HO := Aside0.mk (show S.out = false by cases h : S.out with | false => rfl | true => exact absurd (.inl h) hc)
    have HF := Aside0.mk (show S.fuse ≠ 0 from fun h => hc (.inr h))
    rw [HO.out] at HP HR
    clear hc
    go_enter Try.func12, Try.ntmps12
    go_wp2_with (first | ((with_reducible refine gate_dst (N := 1) rfl ?_); refine ev_boxv rfl 22 (.tmp 0) rfl (.pointer (some ⟨g, 0, none⟩)) rfl rfl ?_; intro b0 wa hge hg hb; have HPn := Aside0.mk (HP.out.newB hb hg hge); clear HP; have HP := HPn; clear HPn; clear hge hg hb; have h0 := blk_cell (HP.out.blk 0 rfl) 0))
    refine (HR.out _ (HP.out.blk 1 rfl)).mono ?_; rintro e w_ ⟨rfl, rfl⟩
    go_wp2_with fail
    clear h0
    refine (c_step1 (Q := fun w' => ∃ m' clock', look m' = putF (look m) S.l ∧ Hp w0 w' (.blk b0 (.cells #[.pointer (some ⟨g, 0, none⟩)] 22 (0, 0)) :: .blk g (.cells (dC (wrap64 (S.steps + 1)) (burn S.fuse) false true S.many gm (.slice none 0 0)).toArray 63 (0, 0)) :: .blk gm (.map (rawM m') clock') :: .row KL 70 w0.heap.size (.slice none 0 0) [] :: Rs.set i .none)) HP.out 1 g S.steps S.fuse true S.many gm v _ _ rfl HF.out (fun w => HEN.out w b0) (fun w1 h1 => (c_flush1 g gm (wrap64 (S.steps + 1)) (burn S.fuse) S.many m clock v S.l HL.out b0 h1).mono fun e w' h => h)).mono ?_; rintro e w2 ⟨rfl, m', clock', hm', hpn⟩
    have HPn := Aside0.mk hpn
    have HM' := Aside0.mk hm'
    clear HP hpn hm'
    have HP := HPn
    clear HPn
    go_wp2_with fail
    go_ret
    refine ⟨rfl, Hp.closeD { S.step with at' := putF S.at' S.l, l := [] } (m := m') ⟨by rw [HM'.out, HM.out.1], putF_len _ _ HM.out.2 HLN.out⟩ HI.out (by have h := Hp.dropN [_] HP.out; rw [← HO.out] at h; exact h)⟩
set_option maxHeartbeats 8000000 in
set_option maxRecDepth 100000 in
theorem c_readE {w0 w : World} {Rs : List Res} (HP : Hp w0 w Rs) (i g : Nat) (S : DS) (hi : Rs[i]? = some (rDisk w0.heap.size g S)) (n : Int) (hr0 : S.readyE n ≠ 0) :
    Calls Try.prog 21 #[.pointer (some ⟨g, 0, none⟩), .int .i64 n] w fun e w' => e = .returned (.tuple #[.slice none 0 0, .int .i64 (S.readyE n)]) ∧ w' = w := by
  obtain ⟨⟨gm, m, clock, v⟩, hm, HP0⟩ := HP.openE i hi
  have HP1 : Hp w0 w (.blk g (.cells (dC S.steps S.fuse S.out true S.many gm v).toArray 63 (0, 0)) :: .blk gm (.map (rawM m) clock) :: .row KL 70 w0.heap.size v S.l :: Rs.set i .none) := HP0
  have hil : i < Rs.length := (List.getElem?_eq_some_iff.1 hi).1
  have HPn := Aside0.mk HP1
  have HM := Aside0.mk hm
  have HI := Aside0.mk hil
  clear HP HP0 HP1 hm hil
  have HP := HPn
  clear HPn
  have HR := Aside0.mk (fun w hg => c_ready g S.steps S.fuse S.out S.many gm v n w hg)
  clear hi
  obtain ⟨r, hr⟩ : ∃ z, S.readyE n = z := ⟨_, rfl⟩
  rw [show readyD S.out S.many n = r from hr] at HR
  rw [hr] at hr0 ⊢
  have hd : (r != 0) = true := bne_iff_ne.2 hr0
  clear hr hr0
  go_enter Try.func21, Try.ntmps21
  go_wp2_with fail
  refine (HR.out _ (HP.out.blk 0 rfl)).mono ?_; rintro e w_ ⟨rfl, rfl⟩
  go_wp2_with fail
  refine bodyPost_ret (results_two_tmps rfl _ _ rfl rfl) rfl ?_
  exact ⟨rfl, rfl⟩
set_option maxHeartbeats 8000000 in
set_option maxRecDepth 100000 in
theorem c_read {w0 w : World} {Rs : List Res} (HP : Hp w0 w Rs) (i g : Nat) (S : DS) (hi : Rs[i]? = some (rDisk w0.heap.size g S)) (n : Int) (hl : S.l.length ≤ 1000000) (hr0 : S.readyE n = 0) :
    Calls Try.prog 21 #[.pointer (some ⟨g, 0, none⟩), .int .i64 n] w fun e w' => ∃ gr, e = .returned (.tuple #[.slice (some ⟨gr, 0, none⟩) 64 64, .int .i64 0]) ∧ (putF S.at' S.l n).length = 64 ∧ Hp w0 w' (.blk gr (.cells (u8c (putF S.at' S.l n)).toArray 68 (0, 0)) :: Rs) := by
  have HSELF := Aside0.mk (show Rs.set i (rDisk w0.heap.size g S) = Rs from set_self hi)
  obtain ⟨⟨gm, m, clock, v⟩, hm, HP0⟩ := HP.openE i hi
  have HP1 : Hp w0 w (.blk g (.cells (dC S.steps S.fuse S.out true S.many gm v).toArray 63 (0, 0)) :: .blk gm (.map (rawM m) clock) :: .row KL 70 w0.heap.size v S.l :: Rs.set i .none) := HP0
  have hil : i < Rs.length := (List.getElem?_eq_some_iff.1 hi).1
  have HPn := Aside0.mk HP1
  have HM := Aside0.mk hm
  have HI := Aside0.mk hil
  clear HP HP0 HP1 hm hil
  have HP := HPn
  clear HPn
  have HR := Aside0.mk (fun w hg => c_ready g S.steps S.fuse S.out S.many gm v n w hg)
  rw [show readyD S.out S.many n = 0 from hr0] at HR
  obtain ⟨Av, cv, rfl⟩ := Kd.R_slice (HP.out.row 2 rfl)
  have HLN := Aside0.mk (KL_len (Kd.R_reads' (HP.out.row 2 rfl)).2.2)
  have hll : (S.l.length : Int) ≤ 1000000 := by omega
  have HLK := Aside0.mk (show (look m n).length = 64 by rw [HM.out.1]; exact HM.out.2 n)
  have hcut : ∀ (g : Nat) (w : World), (Instr.sliceAt 68 (.pointer (some ⟨g, 0, none⟩)) none none none).run Try.prog w = .ok (.slice (some ⟨g, 0, none⟩) 64 64) w := fun g w => run_cut_all (P := Try.prog) Try.underlying68 (by kernel_rfl) (by decide) g 0 w
  have h5 : w.cell? ⟨g, 5, none⟩ = some (.map (some gm)) := blk_cell (HP.out.blk 0 rfl) 5
  clear hi hl hr0
  go_enter Try.func21, Try.ntmps21
  go_wp2_with fail
  refine (HR.out _ (HP.out.blk 0 rfl)).mono ?_; rintro e w_ ⟨rfl, rfl⟩
  go_wp2_with (first | ((with_reducible refine gate_dst (N := 21) rfl ?_); refine ev_run rfl (run_op_look (HP.out.blk 1 rfl) (x := .tmp 19) (y := .tmp 20) (by rfl) (by rfl) (by rfl)) ?_) | ((with_reducible refine gate_dst (N := 7) rfl ?_); refine ev_alloc rfl 68 rfl (.agg (u8c s64).toArray) (by kernel_rfl) ?_; intro gs wa hge hg hb; have HPn := Aside0.mk (HP.out.newB hb hg hge); clear HP; have HP := HPn; clear HPn; clear hge hg hb) | ((with_reducible refine gate_store (t := 68) (p := 7) rfl ?_); refine ev_store rfl 68 (.tmp 7) (.tmp 21) rfl rfl _ rfl (cells := (u8c (look m n)).toArray) rfl (HP.out.blk 0 rfl) (by rw [List.size_toArray, u8c_len, HLK.out]; kernel_rfl) (show (u8c s64).toArray.size = (u8c (look m n)).toArray.size from by rw [List.size_toArray, List.size_toArray, u8c_len, u8c_len, HLK.out]; rfl) (all_oneCell_toArray (one_u8c _)) ?_; intro wb hg hgr; have HPn := Aside0.mk (HP.out.setB 0 rfl hgr hg); clear HP; have HP := HPn; clear HPn; clear hg hgr; have h6 : wb.cell? ⟨g, 6, none⟩ = some (.slice Av S.l.length cv) := blk_cell (HP.out.blk 1 rfl) 6))
  clear h5 h6
  go_loopg [27] S.l.length (fun kq v27 w' => ∃ (j : Nat) (x : Int) (bb : List Int), v27 = .int .i64 x ∧ Aside0 (x = (j : Int)) ∧ Aside0 (kq + j = S.l.length) ∧ Aside0 (bb = putF (look m) (S.l.take j) n ∧ bb.length = 64) ∧ Aside0 (Hp w0 w' (.blk gs (.cells (u8c bb).toArray 68 (0, 0)) :: .blk g (.cells (dC S.steps S.fuse S.out true S.many gm (.slice Av S.l.length cv)).toArray 63 (0, 0)) :: .blk gm (.map (rawM m) clock) :: .row KL 70 w0.heap.size (.slice Av S.l.length cv) S.l :: Rs.set i .none)))
  case atStart => exact ⟨0, 0, look m n, rfl, ⟨rfl⟩, ⟨rfl⟩, ⟨rfl, HLK.out⟩, HP⟩
  clear HP
  obtain ⟨j, x, bb, rfl, HX, HK, HBB, HP⟩ := hrel
  have hx := HX.out
  by_cases c1 : j < S.l.length
  · have d1 : decide (x < (S.l.length : Int)) = true := decide_eq_true (by omega)
    have ex : IntKind.i64.wrap (x + 1) = x + 1 := IntWalk.i64_in _ (by omega)
    have p0 : 0 ≤ x := by omega
    have q0 : x < (S.l.length : Int) := by omega
    obtain ⟨⟨n1, b⟩, hnb⟩ : ∃ p, S.l[j]? = some p := ⟨_, List.getElem?_eq_getElem c1⟩
    have hC := (Kd.R_reads' (HP.out.row 3 rfl)).2.2
    obtain ⟨Ab, Ao, rfl⟩ := C_addrK (by decide) hC (by omega)
    obtain ⟨cs, ⟨hcs, hbl⟩, hra⟩ := range_K hC hnb
    have hcs2 : cs = lc n1 b := hcs
    subst hcs2
    have hxt : x.toNat = j := by omega
    rw [show KL.sz = 65 from rfl, ← hxt] at hra
    have HRA := Aside0.mk hra
    have HNB := Aside0.mk hnb
    have HBL := Aside0.mk hbl
    have hi65 : (Try.prog.info? 70).map (·.size) = some (lc n1 b).length := by rw [lc_len n1 b hbl]; kernel_rfl
    have hi64 : (Try.prog.info? 68).map (·.size) = some (u8c b).length := by rw [u8c_len, hbl]; kernel_rfl
    have hu := Try.underlying68
    clear hx c1 hC hra hxt hnb hbl
    by_cases c2 : n1 = n
    · have d2 : (n1 == n) = true := beq_iff_eq.2 c2
      have HC2 := Aside0.mk c2
      clear c2
      go_wp2_with (first | ((with_reducible refine gate_dst (N := 30) rfl ?_); refine ev_elem rfl 70 (.tmp 29) rfl Ab (Ao + x.toNat * 65) rfl (lc n1 b) HRA.out Try.underlying70 rfl hi65 ?_) | ((with_reducible refine gate_dst (N := 9) rfl ?_); refine ev_alloc rfl 70 rfl (.agg (lc 0 s64).toArray) (by kernel_rfl) ?_; intro gx wa hge hg hb; have HPn := Aside0.mk (HP.out.newB hb hg hge); clear HP; have HP := HPn; clear HPn; clear hge hg hb) | ((with_reducible refine gate_store (t := 70) (p := 9) rfl ?_); refine ev_store rfl 70 (.tmp 9) (.tmp 30) rfl rfl _ rfl (cells := (lc n1 b).toArray) rfl (HP.out.blk 0 rfl) (by rw [List.size_toArray]; exact hi65) (show (lc 0 s64).toArray.size = (lc n1 b).toArray.size from by rw [List.size_toArray, List.size_toArray, lc_len n1 b HBL.out]; rfl) (all_oneCell_toArray (one_lc n1 b)) ?_; intro wb hg hgr; have HPn := Aside0.mk (HP.out.setB 0 rfl hgr hg); clear HP; have HP := HPn; clear HPn; clear hg hgr; have hc0 : wb.cell? ⟨gx, 0, none⟩ = some (.int .i64 n1) := blk_cell (HP.out.blk 0 rfl) 0) | ((with_reducible refine gate_dst (N := 36) rfl ?_); refine ev_elem rfl 68 (.tmp 35) rfl gx 1 rfl (u8c b) (range_tail (HP.out.blk 0 rfl)) hu rfl hi64 ?_) | ((with_reducible refine gate_store (t := 68) (p := 7) rfl ?_); refine ev_store rfl 68 (.tmp 7) (.tmp 36) rfl rfl _ rfl (cells := (u8c b).toArray) rfl (HP.out.blk 1 rfl) (by rw [List.size_toArray]; exact hi64) (show (u8c bb).toArray.size = (u8c b).toArray.size from by rw [List.size_toArray, List.size_toArray, u8c_len, u8c_len, HBL.out, HBB.out.2]) (all_oneCell_toArray (one_u8c _)) ?_; intro wc hg hgr; have HPn := Aside0.mk (HP.out.setB 1 rfl hgr hg); clear HP; have HP := HPn; clear HPn; clear hg hgr))
      have HPn := HP.out.drop1
      clear HP hc0
      go_roundg (gk - 1)
      case measure => have := HK.out; have := (List.getElem?_eq_some_iff.1 HNB.out).1; omega
      case rel => exact ⟨j + 1, x + 1, b, rfl, ⟨by have := HX.out; omega⟩, ⟨by have := HK.out; have := (List.getElem?_eq_some_iff.1 HNB.out).1; omega⟩, ⟨by rw [take_snocD S.l j _ HNB.out, putF_snoc]; simp [HC2.out], HBL.out⟩, ⟨HPn⟩⟩
    · have d2 : (n1 == n) = false := beq_eq_false_iff_ne.2 c2
      have HC2 := Aside0.mk c2
      clear c2
      go_wp2_with (first | ((with_reducible refine gate_dst (N := 30) rfl ?_); refine ev_elem rfl 70 (.tmp 29) rfl Ab (Ao + x.toNat * 65) rfl (lc n1 b) HRA.out Try.underlying70 rfl hi65 ?_) | ((with_reducible refine gate_dst (N := 9) rfl ?_); refine ev_alloc rfl 70 rfl (.agg (lc 0 s64).toArray) (by kernel_rfl) ?_; intro gx wa hge hg hb; have HPn := Aside0.mk (HP.out.newB hb hg hge); clear HP; have HP := HPn; clear HPn; clear hge hg hb) | ((with_reducible refine gate_store (t := 70) (p := 9) rfl ?_); refine ev_store rfl 70 (.tmp 9) (.tmp 30) rfl rfl _ rfl (cells := (lc n1 b).toArray) rfl (HP.out.blk 0 rfl) (by rw [List.size_toArray]; exact hi65) (show (lc 0 s64).toArray.size = (lc n1 b).toArray.size from by rw [List.size_toArray, List.size_toArray, lc_len n1 b HBL.out]; rfl) (all_oneCell_toArray (one_lc n1 b)) ?_; intro wb hg hgr; have HPn := Aside0.mk (HP.out.setB 0 rfl hgr hg); clear HP; have HP := HPn; clear HPn; clear hg hgr; have hc0 : wb.cell? ⟨gx, 0, none⟩ = some (.int .i64 n1) := blk_cell (HP.out.blk 0 rfl) 0) | ((with_reducible refine gate_dst (N := 36) rfl ?_); refine ev_elem rfl 68 (.tmp 35) rfl gx 1 rfl (u8c b) (range_tail (HP.out.blk 0 rfl)) hu rfl hi64 ?_) | ((with_reducible refine gate_store (t := 68) (p := 7) rfl ?_); refine ev_store rfl 68 (.tmp 7) (.tmp 36) rfl rfl _ rfl (cells := (u8c b).toArray) rfl (HP.out.blk 1 rfl) (by rw [List.size_toArray]; exact hi64) (show (u8c bb).toArray.size = (u8c b).toArray.size from by rw [List.size_toArray, List.size_toArray, u8c_len, u8c_len, HBL.out, HBB.out.2]) (all_oneCell_toArray (one_u8c _)) ?_; intro wc hg hgr; have HPn := Aside0.mk (HP.out.setB 1 rfl hgr hg); clear HP; have HP := HPn; clear HPn; clear hg hgr))
      have HPn := HP.out.drop1
      clear HP hc0
      go_roundg (gk - 1)
      case measure => have := HK.out; have := (List.getElem?_eq_some_iff.1 HNB.out).1; omega
      case rel => exact ⟨j + 1, x + 1, bb, rfl, ⟨by have := HX.out; omega⟩, ⟨by have := HK.out; have := (List.getElem?_eq_some_iff.1 HNB.out).1; omega⟩, ⟨by rw [take_snocD S.l j _ HNB.out, putF_snoc]; simp [HC2.out, HBB.out.1], HBB.out.2⟩, ⟨HPn⟩⟩
  · have d1 : decide (x < (S.l.length : Int)) = false := decide_eq_false (by omega)
    have HE := Aside0.mk (show bb = putF S.at' S.l n by rw [HBB.out.1, HM.out.1, List.take_of_length_le (by omega)])
    clear hx c1
    go_wp2_with fail
    refine bodyPost_ret (results_two_tmps rfl _ _ rfl rfl) rfl ?_
    refine ⟨gs, rfl, by rw [← HE.out]; exact HBB.out.2, ?_⟩
    rw [HE.out] at HP
    have h1 : Hp w0 wr ([.blk g (.cells (dC S.steps S.fuse S.out true S.many gm (.slice Av S.l.length cv)).toArray 63 (0, 0)), .blk gm (.map (rawM m) clock), .row KL 70 w0.heap.size (.slice Av S.l.length cv) S.l] ++ (.blk gs (.cells (u8c (putF S.at' S.l n)).toArray 68 (0, 0)) :: Rs.set i .none)) := HP.out.rot3
    have h2 := Hp.closeE (p := diskP S) (diskL w0.heap.size g S) (gm, m, clock, .slice Av S.l.length cv) HM.out (i + 1) (Rs := .blk gs (.cells (u8c (putF S.at' S.l n)).toArray 68 (0, 0)) :: Rs) (by simpa using HI.out) h1
    have h3 : Hp w0 wr (.blk gs (.cells (u8c (putF S.at' S.l n)).toArray 68 (0, 0)) :: Rs.set i (rDisk w0.heap.size g S)) := h2
    rw [HSELF.out] at h3
    exact h3
end Go.Proofs.Ytejfocliopbocaa.D
