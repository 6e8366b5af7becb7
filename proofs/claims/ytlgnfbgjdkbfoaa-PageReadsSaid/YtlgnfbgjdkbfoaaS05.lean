import Derived.Test.YtlgnfbgjdkbfoaaS04
import Derived.Test.YtlgnfbgjdkbfoaaS00
import Derived.Test.YtlgnfbgjdkbfoaaS02
import Derived.Test.YtlgnfbgjdkbfoaaS03
namespace Go.Proofs.Ytlgnfbgjdkbfoaa.H
open Go.RowKit Go.Proofs.Ytlgnfbgjdkbfoaa.XH Go.Proofs.YtlgnfbgjdkbfoaaW.PrintWords Go.Proofs.YtlgnfbgjdkbfoaaW.PrintLast Go.Proofs.YtlgnfbgjdkbfoaaW.PrintMore Go.Proofs.YtlgnfbgjdkbfoaaXe Go.Proofs.YtlgnfbgjdkbfoaaXs
set_option linter.unusedVariables false
set_option linter.unusedSimpArgs false
attribute [local go_sem ↓] Go.wp_at_zero Go.wp_at_succ
section
variable {P : Program} {ops : Array Oper} {Q : Exit → Act → World → Prop} {wd : World} {ds : List Nat} {S : World → Prop}
/-- what is asked of an operation that yields a value in this very world -/
def valUpon (w : World) (o : Oper) (a : Act) (K : Act → Prop) : Result Next → Prop
  | .ok (.value v) w' => w' = w ∧ K (a.put o.dst v)
  | _ => False
end
theorem C_ints {w : World} {k : IntKind} {ad : Addr} {l : List Int} (hl : l.length ≤ 9223372036854775807) (h : ∀ j x, l[j]? = some x → w.cell? (ad.add j) = some (.int k x)) : Kd.C (Kd.int k) w (some ad) l.length l := by
  refine ⟨rfl, by simpa using hl, fun _ => ⟨_, rfl, fun j p hj => ?_⟩⟩
  refine ⟨[.int k p], rfl, rfl, fun i u hu => ?_⟩
  cases i with
  | zero =>
    simp at hu
    subst hu
    have h1 := h j p hj
    have h2 : (Kd.int k).sz = 1 := rfl
    simpa [h2] using h1
  | succ i => simp at hu
section
variable {P : Program} {T e : TypeId} {N : Nat}
theorem run_cut_all (hT : P.underlying T = some (.array N e)) (hs : (P.info? e).map (·.size) = some 1) (hN : 0 < N) (g o : Nat) (w : World) :
    (Instr.sliceAt T (.pointer (some ⟨g, o, none⟩)) none none none).run P w = .ok (.slice (some ⟨g, o, none⟩) N N) w := by
  obtain ⟨i, hi, hsi⟩ := Option.map_eq_some_iff.1 hs
  have h2 : ¬ (N = 0) := by omega
  simp [Instr.sliceAt, Instr.sureAddr, run_underlying hT, Instr.sliceBounds, Instr.sliceBound, asIntOf, h2, sizeOf, typeInfo, hi, hsi, add_at]
end
section
variable {P : Program} {ops : Array Oper} {rest : List Oper} {o : Oper} {a : Act} {Q : Exit → Act → World → Prop} {W w0 : World} {Rs : List Res}
theorem set_self {α : Type} {l : List α} {i : Nat} {x : α} (h : l[i]? = some x) : l.set i x = l := by
  apply List.ext_getElem?
  intro j
  have hi : i < l.length := (List.getElem?_eq_some_iff.1 h).1
  rw [List.getElem?_set]
  split
  · subst_vars
    first | exact h.symm | (rw [if_pos hi, h])
  · rfl
/-- a row within a block is written -/
theorem ev_store_mid (HP : Hp w0 W Rs) (i : Nat) {g off : Nat} {cur : List Value} {t : TypeId} (hi : Rs[i]? = some (.blk g (.cells cur.toArray t (0, 0)))) (hgd : o.guard = none) (hdst : o.dst = none) (ty : TypeId) (x y : Operand) (ho : o.op = .store ty x y)
    (hx : a.eval x = .pointer (some ⟨g, off, none⟩)) {cs : List Value} (hy : a.eval y = .agg cs.toArray) (hfit : off + cs.length ≤ cur.length) (hsz : (P.info? ty).map (·.size) = some cs.length) (h1 : ∀ v ∈ cs, v.oneCell' = true)
    (h : ∀ w1, Hp w0 w1 (Rs.set i (.blk g (.cells (cur.take off ++ cs ++ cur.drop (off + cs.length)).toArray t (0, 0)))) → wpList P ops Q rest a w1) : wpList P ops Q (o :: rest) a W := by
  have hg := HP.blk i hi
  refine wpList_store_mid hgd ty x y ho g off cs.toArray hx hy (fun j hj => ?_) (by simpa using hsz) (all_oneCell_toArray h1) ?_
  · simp only [List.size_toArray] at hj
    refine ⟨by rw [cell_of_row W g _ _ _ _ hg]; simp; omega, frozC hg _⟩
  · rw [hdst]
    obtain ⟨cur', h2, h3, h4⟩ := setCells_row cs off W cur.toArray hg (by simpa using hfit)
    obtain ⟨k1, k2, k3, k4⟩ := setCells_same g cs off W
    refine h _ (HP.setB i hi ⟨k1, k2, k3, by simpa using Nat.le_of_eq k4.symm, fun k _ hk => setCells_far cs off k fun e => hk (by rw [e])⟩ ?_)
    rw [show (cur.take off ++ cs ++ cur.drop (off + cs.length)).toArray = cur' from by apply Array.ext'; simpa using h4.symm]
    simpa using h2
/-- copy into a block -/
theorem ev_copy (HP : Hp w0 W Rs) (i : Nat) {g off : Nat} {cur : List Value} {t : TypeId} (hi : Rs[i]? = some (.blk g (.cells cur.toArray t (0, 0)))) (hgd : o.guard = none) (d s : Operand) (dT sT : TypeId)
    (ho : o.op = .call { callee := .builtin .copy, args := #[d, s], argTypes := #[dT, sT] }) (elem : TypeId) (hu : P.underlying dT = some (.slice elem)) (hsz : (P.info? elem).map (·.size) = some 1)
    (dLen dCap : Nat) (hd : a.eval d = .slice (some ⟨g, off, none⟩) dLen dCap) {A : Option Addr} {m c : Nat} (hs : a.eval s = .slice A m c) {k : IntKind} {l : List Int} (hml : l.length = m) (hC : Kd.C (Kd.int k) W A m l) {cs : List Value} (hcs : cs = (l.take dLen).map (Value.int k)) (hfit : off + cs.length ≤ cur.length) {n : Nat} (hn : cs.length = n)
    (h : ∀ w1, Hp w0 w1 (Rs.set i (.blk g (.cells (splice cur off cs).toArray t (0, 0)))) → wpList P ops Q rest (a.put o.dst (goInt n)) w1) : wpList P ops Q (o :: rest) a W := by
  subst hml hn hcs
  have hg := HP.blk i hi
  by_cases h0 : min l.length dLen = 0
  · have hnil : (l.take dLen).map (Value.int k) = [] := by
      rw [List.map_eq_nil_iff, ← List.length_eq_zero_iff, List.length_take]; omega
    rw [hnil] at h
    refine wpList_copy_nothing hgd d s dT sT ho elem hu hsz (some ⟨g, off, none⟩) A dLen dCap l.length c hd hs h0 ?_
    refine h W ?_
    have e1 : splice cur off [] = cur := by simp [splice]
    rw [e1, set_self hi]
    exact HP
  · have hpos : 0 < l.length := by omega
    obtain ⟨_, _, h3⟩ := hC
    obtain ⟨ad, rfl, h4⟩ := h3 hpos
    refine wpList_copy_own hgd d s dT sT ho elem hu hsz g off dLen dCap ad l.length c hd hs cur.toArray t hg ((l.take dLen).map (Value.int k)) (by simp [Nat.min_comm]) (fun j v hv => ?_) (by simpa using hfit) (fun v hv => ?_) ?_
    · rw [List.getElem?_map, Option.map_eq_some_iff] at hv
      obtain ⟨x, hx, rfl⟩ := hv
      rw [List.getElem?_take] at hx
      split at hx
      · obtain ⟨c1, h5, h6, h7⟩ := h4 j x hx
        have h8 : c1 = [.int k x] := h6
        subst h8
        have h9 := h7 0 _ rfl
        have h2 : (Kd.int k).sz = 1 := rfl
        simpa [h2] using h9
      · cases hx
    · obtain ⟨x, _, rfl⟩ := List.mem_map.1 hv
      rfl
    · refine h _ (HP.setB i hi ⟨rfl, rfl, rfl, by rw [setRow_size]; exact Nat.le_refl _, fun q _ hq => setRow_other W g q _ fun e => hq (by rw [e])⟩ ?_)
      have := setRow_heap W g cur.toArray (cur.toArray.toList.take off ++ ((l.take dLen).map (Value.int k) ++ cur.toArray.toList.drop (off + ((l.take dLen).map (Value.int k)).length))).toArray t (0, 0) hg
      simpa [splice] using this
end
/-- the cells of a digest -/
def dc (m : Bool) (v : V8) (p : List Int) (n : Int) : List Value := .bool m :: (u32s v.l ++ (u8s p ++ [.int .i64 n]))
end Go.Proofs.Ytlgnfbgjdkbfoaa.H
namespace Go.Proofs.Ytlgnfbgjdkbfoaa.H
open Go.RowKit Go.Proofs.Ytlgnfbgjdkbfoaa.XH Go.Proofs.YtlgnfbgjdkbfoaaW.PrintWords Go.Proofs.YtlgnfbgjdkbfoaaW.PrintLast Go.Proofs.YtlgnfbgjdkbfoaaW.PrintMore Go.Proofs.YtlgnfbgjdkbfoaaXe Go.Proofs.YtlgnfbgjdkbfoaaXs
set_option linter.unusedVariables false
set_option linter.unusedSimpArgs false
attribute [local go_sem ↓] Go.wp_at_zero Go.wp_at_succ
attribute [local go_sem] valUpon
/-- blocks, one behind the other -/
noncomputable def behV (v : V8) (b : List Int) : V8 := let l := behI v b; ⟨rd l 0, rd l 1, rd l 2, rd l 3, rd l 4, rd l 5, rd l 6, rd l 7⟩
noncomputable def foldB : Nat → V8 → List Int → V8
  | 0, v, _ => v
  | k + 1, v, M => foldB k (behV v (M.take 64)) (M.drop 64)
theorem foldB_app : ∀ (k : Nat) (v : V8) (M X : List Int), 64 * k ≤ M.length → foldB k v (M ++ X) = foldB k v M
  | 0, _, _, _, _ => rfl
  | k + 1, v, M, X, h => by
    rw [foldB, foldB, List.take_append_of_le_length (by omega), List.drop_append_of_le_length (by omega)]
    exact foldB_app k _ _ _ (by rw [List.length_drop]; omega)
theorem foldB_one : ∀ (k : Nat) (v : V8) (M : List Int), 64 * (k + 1) ≤ M.length → foldB (k + 1) v M = behV (foldB k v M) ((M.drop (64 * k)).take 64)
  | 0, v, M, _ => by rw [foldB, foldB, foldB]; simp
  | k + 1, v, M, h => by
    rw [foldB, foldB_one k _ _ (by rw [List.length_drop]; omega), foldB, List.drop_drop]
    rw [show 64 * (k + 1) = 64 + 64 * k by omega]
def H0 : V8 := ⟨1779033703, 3144134277, 1013904242, 2773480762, 1359893119, 2600822924, 528734635, 1541459225⟩
/-- what a digest holds, that was given these bytes -/
structure DigI (v : V8) (p : List Int) (M : List Int) : Prop where
  len : p.length = 64
  st : v = foldB (M.length / 64) H0 M
  part : p.take (M.length % 64) = M.drop (64 * (M.length / 64))
theorem DigI.step {v : V8} {p M q : List Int} (h : DigI v p M) (hq : M.length % 64 + q.length ≤ 64) (hq1 : 0 < q.length) :
    DigI (if (M.length + q.length) % 64 = 0 then behV v (splice p (M.length % 64) q) else v) (splice p (M.length % 64) q) (M ++ q) := by
  have hl := h.len
  have hsl : (splice p (M.length % 64) q).length = 64 := by rw [length_splice _ _ _ (by omega)]; exact hl
  have htk : (splice p (M.length % 64) q).take (M.length % 64 + q.length) = M.drop (64 * (M.length / 64)) ++ q := by
    unfold splice
    rw [← List.append_assoc, List.take_left' (by simp; omega), h.part]
  by_cases hz : (M.length + q.length) % 64 = 0
  · rw [if_pos hz]
    · have e1 : M.length % 64 + q.length = 64 := by omega
      have e2 : (M ++ q).length / 64 = M.length / 64 + 1 := by rw [List.length_append]; omega
      refine ⟨hsl, ?_, ?_⟩
      · rw [e2, foldB_one _ _ _ (by rw [List.length_append]; omega), foldB_app _ _ _ _ (by omega), ← h.st]
        congr 1
        rw [List.drop_append_of_le_length (by omega), ← htk, e1, List.take_of_length_le (by rw [List.length_take]; omega), List.take_of_length_le (by omega)]
      · rw [show (M ++ q).length % 64 = 0 by rw [List.length_append]; omega, e2]
        rw [List.take_zero, List.drop_eq_nil_of_le (by rw [List.length_append]; omega)]
  · rw [if_neg hz]
    have e2 : (M ++ q).length / 64 = M.length / 64 := by rw [List.length_append]; omega
    have e3 : (M ++ q).length % 64 = M.length % 64 + q.length := by rw [List.length_append]; omega
    refine ⟨hsl, ?_, ?_⟩
    · rw [e2, foldB_app _ _ _ _ (by omega)]; exact h.st
    · rw [e3, e2, htk, List.drop_append_of_le_length (by omega)]
set_option maxHeartbeats 8000000 in
set_option maxRecDepth 100000 in
theorem c_absent (g : Nat) (m : Bool) (w : World) (hc : w.cell? ⟨g, 0, none⟩ = some (.bool m)) : Calls Try.prog 89 #[.pointer (some ⟨g, 0, none⟩)] w fun e w' => e = .returned (.bool (!m)) ∧ w' = w := by
  go_enter Try.func89, Try.ntmps89
  go_wp2
  go_ret
  exact ⟨rfl, rfl⟩
end Go.Proofs.Ytlgnfbgjdkbfoaa.H
namespace Go.Proofs.Ytlgnfbgjdkbfoaa.H
open Go.RowKit Go.Proofs.Ytlgnfbgjdkbfoaa.XH Go.Proofs.YtlgnfbgjdkbfoaaW.PrintWords Go.Proofs.YtlgnfbgjdkbfoaaW.PrintLast Go.Proofs.YtlgnfbgjdkbfoaaW.PrintMore Go.Proofs.YtlgnfbgjdkbfoaaXe Go.Proofs.YtlgnfbgjdkbfoaaXs
set_option linter.unusedVariables false
set_option linter.unusedSimpArgs false
attribute [local go_sem ↓] Go.wp_at_zero Go.wp_at_succ
attribute [local go_sem] valUpon
/-- values that are built, whole: opaque for the walks -/
noncomputable def BN134 (parts : Array (Nat × Value)) : Sem Value := Instr.build 134 parts
noncomputable def BN136 (parts : Array (Nat × Value)) : Sem Value := Instr.build 136 parts
noncomputable def BN63 (parts : Array (Nat × Value)) : Sem Value := Instr.build 63 parts
theorem bn134 (parts : Array (Nat × Value)) : Instr.build 134 parts = BN134 parts := rfl
theorem bn136 (parts : Array (Nat × Value)) : Instr.build 136 parts = BN136 parts := rfl
theorem bn63 (parts : Array (Nat × Value)) : Instr.build 63 parts = BN63 parts := rfl
theorem BN134.run (w : World) : (BN134 #[(0, .bool true), (1, .agg (u32s H0.l).toArray)]).run Try.prog w = .ok (.agg (dc true H0 (List.replicate 64 0) 0).toArray) w := by unfold BN134; kernel_rfl
theorem BN136.run (w : World) : (BN136 #[(0, .int .u8 128)]).run Try.prog w = .ok (.agg (u8s (128 :: List.replicate 71 0)).toArray) w := by unfold BN136; kernel_rfl
theorem BN63.run (w : World) : (BN63 #[]).run Try.prog w = .ok (.agg (u8s (List.replicate 32 0)).toArray) w := by unfold BN63; kernel_rfl
attribute [local go_sem ↓ high] bn134 bn136 bn63
attribute [local go_sem high] BN134.run BN136.run BN63.run
set_option maxHeartbeats 8000000 in
set_option maxRecDepth 100000 in
theorem c_first (w : World) : Calls Try.prog 88 #[] w fun e w' => e = .returned (.agg (u32s H0.l).toArray) ∧ Below w.heap.size w w' := hash_first.calls _ _ _ _ _ _ _ _ w rfl
end Go.Proofs.Ytlgnfbgjdkbfoaa.H


namespace Go.Proofs.Ytlgnfbgjdkbfoaa.H
open Go.RowKit Go.Proofs.Ytlgnfbgjdkbfoaa.XH Go.Proofs.YtlgnfbgjdkbfoaaW.PrintWords Go.Proofs.YtlgnfbgjdkbfoaaW.PrintLast Go.Proofs.YtlgnfbgjdkbfoaaW.PrintMore Go.Proofs.YtlgnfbgjdkbfoaaXe Go.Proofs.YtlgnfbgjdkbfoaaXs
set_option linter.unusedVariables false
set_option linter.unusedSimpArgs false
attribute [local go_sem ↓] Go.wp_at_zero Go.wp_at_succ
attribute [local go_sem] valUpon
attribute [local go_sem ↓ high] bn134 bn136 bn63
attribute [local go_sem high] BN134.run BN136.run BN63.run
/-- bytes -/
def Bytes (l : List Int) : Prop := ∀ x ∈ l, 0 ≤ x ∧ x < 256
theorem Bytes.rd {l : List Int} (h : Bytes l) (i : Int) : 0 ≤ rd l i ∧ rd l i < 256 := by
  unfold Go.Proofs.YtlgnfbgjdkbfoaaW.PrintWords.rd
  by_cases hi : i.toNat < l.length
  · rw [List.getD_eq_getElem?_getD, List.getElem?_eq_getElem hi]; exact h _ (List.getElem_mem hi)
  · rw [List.getD_eq_getElem?_getD, List.getElem?_eq_none (by omega)]; decide
end Go.Proofs.Ytlgnfbgjdkbfoaa.H


namespace Go.Proofs.Ytlgnfbgjdkbfoaa.H
open Go.RowKit Go.Proofs.Ytlgnfbgjdkbfoaa.XH Go.Proofs.YtlgnfbgjdkbfoaaW.PrintWords Go.Proofs.YtlgnfbgjdkbfoaaW.PrintLast Go.Proofs.YtlgnfbgjdkbfoaaW.PrintMore Go.Proofs.YtlgnfbgjdkbfoaaXe Go.Proofs.YtlgnfbgjdkbfoaaXs
set_option linter.unusedVariables false
set_option linter.unusedSimpArgs false
attribute [local go_sem ↓] Go.wp_at_zero Go.wp_at_succ
attribute [local go_sem] valUpon
set_option maxRecDepth 100000 in
theorem run_make8 (n : Nat) (hn : n ≤ 281474976710656) (w : World) : (Instr.makeSlice 22 (.int .i64 (n : Int)) (.int .i64 (n : Int))).run Try.prog w = .ok (.slice (some ⟨w.heap.size, 0, none⟩) n n) (w.alloc (.cells (u8s (List.replicate n 0)).toArray 5)) := by
  obtain ⟨i, hi, hz, hs, hb⟩ := info_parts info5
  have h := run_make (P := Try.prog) w 22 5 i _ Try.underlying22 hi hz .i64 .i64 n n (by omega) (by omega) (by rw [hb]; omega) (by omega)
  rw [Int.toNat_natCast, hs] at h
  rw [h]
  congr 3
  apply Array.ext'
  simp [madeCells, Value.cells, u8s, Nat.mod_one, List.map_const']
/-- the marks behind bytes that are lent -/
def lentT (n : Nat) : List Int := [160 + (n : Int) % 90, 160 + ((n + 1 : Nat) : Int) % 90, 160 + ((n + 2 : Nat) : Int) % 90]
def lentS (b : List Int) (j : Nat) : List Int := b ++ ((lentT b.length).take j ++ List.replicate (3 - j) 0)
theorem lentS_len (b : List Int) (j : Nat) (h : j ≤ 3) : (lentS b j).length = b.length + 3 := by simp [lentS, lentT]; omega
theorem lentS_step (b : List Int) (j : Nat) (h : j < 3) : (lentS b j).set (b.length + j) (160 + ((b.length + j : Nat) : Int) % 90) = lentS b (j + 1) := by
  unfold lentS
  rw [List.set_append_right _ _ (by omega), Nat.add_sub_cancel_left]
  congr 1
  match j, h with
  | 0, _ => rfl
  | 1, _ => rfl
  | 2, _ => rfl
set_option maxHeartbeats 8000000 in
set_option maxRecDepth 100000 in
theorem c_lent (A : Option Addr) (c : Nat) (b : List Int) (w : World) (hr : Kd.C (Kd.int .u8) w A b.length b) (hc : b.length ≤ c) (hm : b.length ≤ 100000000000000) :
    Calls Try.prog 9 #[.slice A b.length c] w fun e w' => ∃ g, e = .returned (.slice (some ⟨g, 0, none⟩) b.length (b.length + 3)) ∧ w.heap.size ≤ g ∧ w'.heap[g]? = some (.cells (u8s (b ++ lentT b.length)).toArray 5 (0, 0)) ∧ Below w.heap.size w w' := by
  have HR := Aside0.mk hr
  have HM := Aside0.mk hm
  have HP := Aside0.mk (Hp.start w)
  obtain ⟨n3, hn3⟩ : ∃ n3, b.length + 3 = n3 := ⟨_, rfl⟩
  have e1 := i64k (x := (b.length : Int) + 3) (y := (n3 : Int)) (by omega) (by omega)
  have hmk := run_make8 n3 (by omega) w
  have HN3 := Aside0.mk hn3
  obtain ⟨g, hg⟩ : ∃ g, w.heap.size = g := ⟨_, rfl⟩
  obtain ⟨w1, hw1⟩ : ∃ w1, w.alloc (.cells (u8s (List.replicate n3 0)).toArray 5 (0, 0)) = w1 := ⟨_, rfl⟩
  have HP1 := Aside0.mk (HP.out.alloc (.cells (u8s (List.replicate n3 0)).toArray 5 (0, 0)))
  rw [hw1, hg] at HP1
  rw [hw1, hg] at hmk
  have HG := Aside0.mk hg
  have e2 : splice (u8s (List.replicate n3 0)) 0 (u8s b) = u8s (lentS b 0) := by
    have := HN3.out
    unfold splice lentS u8s
    rw [List.take_zero, List.nil_append, Nat.zero_add, List.length_map, ← List.map_drop, ← List.map_append, List.drop_replicate, show n3 - b.length = 3 by omega]
    rfl
  have HE2 := Aside0.mk e2
  have HCS := Aside0.mk (show u8s b = (b.take n3).map (Value.int .u8) from by rw [List.take_of_length_le (l := b) (i := n3) (by have := HN3.out; omega)]; rfl)
  have HFT := Aside0.mk (show 0 + (u8s b).length ≤ (u8s (List.replicate n3 0)).length from by rw [u8s_len, u8s_len, List.length_replicate]; have := HN3.out; omega)
  clear e2 HP hw1 hg
  have HP := HP1
  clear HP1
  clear hr hm hc hn3
  go_enter Try.func9, Try.ntmps9
  go_wp2_with (first | ((with_reducible refine gate_dst (N := 8) rfl ?_); refine ev_run rfl hmk ?_) | ((with_reducible refine gate_builtin (b := .copy) (xs := #[.tmp 9, .tmp 10]) rfl ?_); refine ev_copy HP.out 0 rfl rfl (.tmp 9) (.tmp 10) 22 22 rfl 5 Try.underlying22 (by kernel_rfl) n3 n3 rfl rfl (rfl : b.length = b.length) (Kd.C_below HR.out HP.out.below) HCS.out HFT.out (u8s_len b) ?_; intro w2 hp2; clear HP; have HP := Aside0.mk hp2; clear hp2))
  rw [HE2.out] at HP
  have HP1 := Aside0.mk (show Hp w w2 [.blk g (.cells (u8s (lentS b 0)).toArray 5 (0, 0))] from HP.out)
  clear HP HE2
  go_loopg [4] 3 (fun kq v4 w' => ∃ (j : Nat) (x : Int), v4 = .int .i64 x ∧ Aside0 (x = ((b.length + j : Nat) : Int)) ∧ Aside0 (kq + j = 3) ∧ Aside0 (Hp w w' [.blk g (.cells (u8s (lentS b j)).toArray 5 (0, 0))]))
  case atStart => exact ⟨0, (b.length : Int), rfl, ⟨rfl⟩, ⟨rfl⟩, HP1⟩
  clear HP1
  obtain ⟨j, x, rfl, HX, HK, HP⟩ := hrel
  have hx := HX.out
  have hn3 := HN3.out
  have hm := HM.out
  by_cases c1 : j < 3
  · have d1 : decide (x < (n3 : Int)) = true := decide_eq_true (by omega)
    have ex := i64k (x := x + 1) rfl (by omega)
    have p0 : 0 ≤ x := by omega
    have q0 : x < (n3 : Int) := by omega
    obtain ⟨y, hy⟩ : ∃ y, x % 90 = y := ⟨_, rfl⟩
    have ey : Int.tmod x 90 = y := by rw [Int.tmod_eq_emod_of_nonneg (by omega)]; exact hy
    obtain ⟨z, hz⟩ : ∃ z, 160 + y = z := ⟨_, rfl⟩
    have ez := i64k hz (by omega)
    have ez8 : IntKind.u8.wrap z = z := by rw [IntKind.wrap_u8]; omega
    have ez9 : z % 256 = z := by omega
    have hcw := cellL (HP.out.blk 0 rfl) x p0 (by rw [lentS_len _ _ (by omega)]; omega)
    have hfw := frozC (HP.out.blk 0 rfl) x.toNat
    have HZ := Aside0.mk (And.intro hy hz)
    have HC1 := Aside0.mk c1
    clear hx hm hn3 hy hz c1
    go_wp2
    have hyn : x.toNat = b.length + j := by have := HX.out; omega
    have hzv : z = 160 + ((b.length + j : Nat) : Int) % 90 := by rw [← HZ.out.2, ← HZ.out.1, HX.out]
    have HPn := Aside0.mk (HP.out.setCell 0 rfl (b.length + j) (.int .u8 z))
    rw [show (u8s (lentS b j)).toArray.setIfInBounds (b.length + j) (.int .u8 z) = (u8s (lentS b (j + 1))).toArray from by rw [← lentS_step b j HC1.out, ← hzv]; exact setL (k := .u8) _ _ _, ← hyn] at HPn
    go_roundg (gk - 1)
    case measure => have := HK.out; have := HC1.out; omega
    case rel => exact ⟨j + 1, x + 1, by simp, ⟨by have := HX.out; omega⟩, ⟨by have := HK.out; have := HC1.out; omega⟩, HPn⟩
  · have d1 : decide (x < (n3 : Int)) = false := decide_eq_false (by omega)
    obtain rfl : j = 3 := by have := HK.out; omega
    have k1 : (b.length : Int) ≤ (n3 : Int) := by omega
    clear hx hm hn3 c1
    rw [show lentS b 3 = b ++ lentT b.length from by simp [lentS, lentT]] at HP
    go_wp2
    obtain rfl := HN3.out
    go_ret
    exact ⟨g, rfl, by rw [HG.out]; exact Nat.le_refl _, HP.out.blk 0 rfl, HP.out.below⟩
theorem C_blkW {w : World} {g : Nat} {l : List Int} {t : TypeId} {k : IntKind} (hg : w.heap[g]? = some (.cells (l.map (Value.int k)).toArray t (0, 0))) (hl : l.length ≤ 9223372036854775807) : Kd.C (Kd.int k) w (some ⟨g, 0, none⟩) l.length l := by
  refine C_ints hl fun j x hj => ?_
  rw [add_at, cell_of_row w g _ _ _ _ hg]
  simp [hj]
theorem same_f (l : List Int) : retconkit_SameBytes.f l l = some true := by simp [retconkit_SameBytes.f]
theorem lent_len (b : List Int) : (b ++ lentT b.length).length = b.length + 3 := by simp [lentT]
set_option maxHeartbeats 8000000 in
set_option maxRecDepth 100000 in
theorem c_kept (g : Nat) (A : Option Addr) (c : Nat) (b : List Int) (w : World) (hg : w.heap[g]? = some (.cells (u8s (b ++ lentT b.length)).toArray 5 (0, 0))) (hr : Kd.C (Kd.int .u8) w A b.length b) (hc : b.length ≤ c) (hm : b.length ≤ 100000000000000) :
    Calls Try.prog 13 #[.slice (some ⟨g, 0, none⟩) b.length (b.length + 3), .slice A b.length c] w fun e w' => e = .returned (.bool true) ∧ Below w.heap.size w w' := by
  have HR := Aside0.mk hr
  have HM := Aside0.mk hm
  have HC := Aside0.mk hc
  have HB := Aside0.mk hg
  have HLT := Aside0.mk (blk_lt hg)
  have HP := Aside0.mk (Hp.start w)
  obtain ⟨n3, hn3⟩ : ∃ n3, b.length + 3 = n3 := ⟨_, rfl⟩
  have e1 := i64k (x := (b.length : Int) + 3) (y := (n3 : Int)) (by omega) (by omega)
  have k0 : (0 : Int) ≤ (n3 : Int) := by omega
  have CL := Aside0.mk (fun w hr => c_lent A c b w hr hc hm)
  obtain ⟨l, hl⟩ : ∃ l, b ++ lentT b.length = l := ⟨_, rfl⟩
  have hll := lent_len b
  rw [hl] at hll HB
  rw [hl, hn3] at CL
  rw [hn3]
  have HLL := Aside0.mk (hll.trans hn3)
  have HNM := Aside0.mk (show n3 ≤ 100000000000003 by omega)
  clear hr hm hc hg hn3 hl hll
  go_enter Try.func13, Try.ntmps13
  go_wp2_with fail
  refine wp_region_held_drew (S := (fun _ => True)) (by kernel_rfl) ?_ (fun hHeld => ?_)
  · have HPn := Aside0.mk (HP.out.drewN 1)
    rw [← World.drew_is_drewN] at HPn
    clear HP
    have HP := HPn
    clear HPn
    first | done | trivial
  have HPn := Aside0.mk (HP.out.drewN 1)
  rw [← World.drew_is_drewN] at HPn
  clear HP
  have HP := HPn
  clear HPn
  refine wpAnyH_take (i := 0) (oi := ({ dst := (some 5), op := (Op.move (Operand.tmp 0)), type := 22, pos := "kit.go:34", after := #[], guard := none } : Oper)) (v := ?_) rfl (by kernel_rfl) (by kernel_rfl) (by kernel_rfl) (fun _ _ _ h => h) (Or.inl ⟨by rfl, ?_⟩) hHeld ?_
  rotate_left
  · intro w_ hSw; (try dsimp only at hSw); go_simp; try (with_reducible rfl)
  try simp only [Act.put, List.setIfInBounds_toArray, List.set_cons_zero, List.set_cons_succ]
  refine wpAnyH_take (i := 1) (oi := ({ dst := (some 6), op := (Op.call { callee := (Callee.builtin Builtin.len), args := #[(Operand.tmp 5)], argTypes := #[22] }), type := 3, pos := "kit.go:34", after := #[{ on := 0, ground := Ground.data }], guard := none } : Oper)) (v := ?_) rfl (by kernel_rfl) (by kernel_rfl) (by kernel_rfl) (fun _ _ _ h => h) (Or.inl ⟨by rfl, ?_⟩) hHeld ?_
  rotate_left
  · intro w_ hSw; (try dsimp only at hSw); go_simp; try (with_reducible rfl)
  try simp only [Act.put, List.setIfInBounds_toArray, List.set_cons_zero, List.set_cons_succ]
  refine wpAnyH_take (i := 2) (oi := ({ dst := (some 7), op := (Op.move (Operand.tmp 1)), type := 22, pos := "kit.go:34", after := #[], guard := none } : Oper)) (v := ?_) rfl (by kernel_rfl) (by kernel_rfl) (by kernel_rfl) (fun _ _ _ h => h) (Or.inl ⟨by rfl, ?_⟩) hHeld ?_
  rotate_left
  · intro w_ hSw; (try dsimp only at hSw); go_simp; try (with_reducible rfl)
  try simp only [Act.put, List.setIfInBounds_toArray, List.set_cons_zero, List.set_cons_succ]
  refine wpAnyH_take (i := 3) (oi := ({ dst := (some 8), op := (Op.call { callee := (Callee.builtin Builtin.len), args := #[(Operand.tmp 7)], argTypes := #[22] }), type := 3, pos := "kit.go:34", after := #[{ on := 2, ground := Ground.data }], guard := none } : Oper)) (v := ?_) rfl (by kernel_rfl) (by kernel_rfl) (by kernel_rfl) (fun _ _ _ h => h) (Or.inl ⟨by rfl, ?_⟩) hHeld ?_
  rotate_left
  · intro w_ hSw; (try dsimp only at hSw); go_simp; try (with_reducible rfl)
  try simp only [Act.put, List.setIfInBounds_toArray, List.set_cons_zero, List.set_cons_succ]
  refine wpAnyH_take (i := 4) (oi := ({ dst := (some 9), op := (Op.binOp BinOp.eql 3 (Operand.tmp 6) (Operand.tmp 8) 3), type := 4, pos := "kit.go:34", after := #[{ on := 1, ground := Ground.data }, { on := 3, ground := Ground.data }], guard := none } : Oper)) (v := ?_) rfl (by kernel_rfl) (by kernel_rfl) (by kernel_rfl) (fun _ _ _ h => h) (Or.inl ⟨by rfl, ?_⟩) hHeld ?_
  rotate_left
  · intro w_ hSw; (try dsimp only at hSw); go_simp; try (with_reducible rfl)
  try simp only [Act.put, List.setIfInBounds_toArray, List.set_cons_zero, List.set_cons_succ]
  refine wpAnyH_take (i := 5) (oi := ({ dst := (some 10), op := (Op.move (Operand.tmp 9)), type := 4, pos := "kit.go:34", after := #[{ on := 4, ground := Ground.data }], guard := none } : Oper)) (v := ?_) rfl (by kernel_rfl) (by kernel_rfl) (by kernel_rfl) (fun _ _ _ h => h) (Or.inl ⟨by rfl, ?_⟩) hHeld ?_
  rotate_left
  · intro w_ hSw; (try dsimp only at hSw); go_simp; try (with_reducible rfl)
  try simp only [Act.put, List.setIfInBounds_toArray, List.set_cons_zero, List.set_cons_succ]
  refine wpAnyH_take (i := 6) (oi := ({ dst := (some 11), op := (Op.move (Operand.tmp 0)), type := 22, pos := "kit.go:34", after := #[{ on := 5, ground := Ground.guard }], guard := (some (5, true)) } : Oper)) (v := ?_) rfl (by kernel_rfl) (by kernel_rfl) (by kernel_rfl) (fun _ _ _ h => h) (Or.inl ⟨by rfl, ?_⟩) hHeld ?_
  rotate_left
  · intro w_ hSw; (try dsimp only at hSw); go_simp; try (with_reducible rfl)
  try simp only [Act.put, List.setIfInBounds_toArray, List.set_cons_zero, List.set_cons_succ]
  refine wpAnyH_take (i := 7) (oi := ({ dst := (some 12), op := (Op.move (Operand.tmp 0)), type := 22, pos := "kit.go:34", after := #[{ on := 5, ground := Ground.guard }], guard := (some (5, true)) } : Oper)) (v := ?_) rfl (by kernel_rfl) (by kernel_rfl) (by kernel_rfl) (fun _ _ _ h => h) (Or.inl ⟨by rfl, ?_⟩) hHeld ?_
  rotate_left
  · intro w_ hSw; (try dsimp only at hSw); go_simp; try (with_reducible rfl)
  try simp only [Act.put, List.setIfInBounds_toArray, List.set_cons_zero, List.set_cons_succ]
  refine wpAnyH_take (i := 8) (oi := ({ dst := (some 13), op := (Op.call { callee := (Callee.builtin Builtin.cap), args := #[(Operand.tmp 12)], argTypes := #[22] }), type := 3, pos := "kit.go:34", after := #[{ on := 7, ground := Ground.data }, { on := 5, ground := Ground.guard }], guard := (some (5, true)) } : Oper)) (v := ?_) rfl (by kernel_rfl) (by kernel_rfl) (by kernel_rfl) (fun _ _ _ h => h) (Or.inl ⟨by rfl, ?_⟩) hHeld ?_
  rotate_left
  · intro w_ hSw; (try dsimp only at hSw); go_simp; try (with_reducible rfl)
  try simp only [Act.put, List.setIfInBounds_toArray, List.set_cons_zero, List.set_cons_succ]
  refine wpAnyH_take (i := 9) (oi := ({ dst := (some 14), op := (Op.slice 22 (Operand.tmp 11) none (some (Operand.tmp 13)) none), type := 22, pos := "kit.go:34", after := #[{ on := 6, ground := Ground.data }, { on := 8, ground := Ground.data }, { on := 5, ground := Ground.guard }], guard := (some (5, true)) } : Oper)) (v := ?_) rfl (by kernel_rfl) (by kernel_rfl) (by kernel_rfl) (fun _ _ _ h => h) (Or.inl ⟨by rfl, ?_⟩) hHeld ?_
  rotate_left
  · intro w_ hSw; (try dsimp only at hSw); go_simp; try (with_reducible rfl)
  try simp only [Act.put, List.setIfInBounds_toArray, List.set_cons_zero, List.set_cons_succ]
  refine wpAnyH_take (i := 10) (oi := ({ dst := (some 15), op := (Op.move (Operand.tmp 1)), type := 22, pos := "kit.go:34", after := #[{ on := 5, ground := Ground.guard }], guard := (some (5, true)) } : Oper)) (v := ?_) rfl (by kernel_rfl) (by kernel_rfl) (by kernel_rfl) (fun _ _ _ h => h) (Or.inl ⟨by rfl, ?_⟩) hHeld ?_
  rotate_left
  · intro w_ hSw; (try dsimp only at hSw); go_simp; try (with_reducible rfl)
  try simp only [Act.put, List.setIfInBounds_toArray, List.set_cons_zero, List.set_cons_succ]
  refine wpAnyH_take (i := 12) (oi := ({ dst := (some 17), op := (Op.move (Operand.tmp 1)), type := 22, pos := "kit.go:34", after := #[{ on := 5, ground := Ground.guard }], guard := (some (5, true)) } : Oper)) (v := ?_) rfl (by kernel_rfl) (by kernel_rfl) (by kernel_rfl) (fun _ _ _ h => h) (Or.inl ⟨by rfl, ?_⟩) hHeld ?_
  rotate_left
  · intro w_ hSw; (try dsimp only at hSw); go_simp; try (with_reducible rfl)
  try simp only [Act.put, List.setIfInBounds_toArray, List.set_cons_zero, List.set_cons_succ]
  refine wpAnyH_take (i := 13) (oi := ({ dst := (some 18), op := (Op.call { callee := (Callee.builtin Builtin.len), args := #[(Operand.tmp 17)], argTypes := #[22] }), type := 3, pos := "kit.go:34", after := #[{ on := 12, ground := Ground.data }, { on := 5, ground := Ground.guard }], guard := (some (5, true)) } : Oper)) (v := ?_) rfl (by kernel_rfl) (by kernel_rfl) (by kernel_rfl) (fun _ _ _ h => h) (Or.inl ⟨by rfl, ?_⟩) hHeld ?_
  rotate_left
  · intro w_ hSw; (try dsimp only at hSw); go_simp; try (with_reducible rfl)
  try simp only [Act.put, List.setIfInBounds_toArray, List.set_cons_zero, List.set_cons_succ]
  refine wpAnyH_take (i := 14) (oi := ({ dst := (some 19), op := (Op.binOp BinOp.add 3 (Operand.tmp 18) (Operand.const (Value.int IntKind.i64 3)) 3), type := 3, pos := "kit.go:34", after := #[{ on := 13, ground := Ground.data }, { on := 5, ground := Ground.guard }], guard := (some (5, true)) } : Oper)) (v := ?_) rfl (by kernel_rfl) (by kernel_rfl) (by kernel_rfl) (fun _ _ _ h => h) (Or.inl ⟨by rfl, ?_⟩) hHeld ?_
  rotate_left
  · intro w_ hSw; (try dsimp only at hSw); go_simp; try (with_reducible rfl)
  try simp only [Act.put, List.setIfInBounds_toArray, List.set_cons_zero, List.set_cons_succ]
  refine wpAnyH_ready (rs := [11]) (by kernel_rfl) (by simp) ?_
  refine AllReadyH.cons (o := ({ dst := (some 16), op := (Op.call { callee := (Callee.value (Operand.func 9)), args := #[(Operand.tmp 15)], argTypes := #[22] }), type := 22, pos := "kit.go:34", after := #[{ on := 10, ground := Ground.data }, { on := 5, ground := Ground.chain }, { on := 5, ground := Ground.guard }], guard := (some (5, true)) } : Oper)) rfl (fun K hK => ?_) AllReadyH.nil
  go_simp
  go_at_call 9; (with_reducible refine (CL.out _ (Kd.C_below HR.out HP.out.below)).mono ?_); rintro e w5 ⟨g2, rfl, hge, hg, hb⟩; have HPn := Aside0.mk (HP.out.newB hb hg hge); clear HP; have HP := HPn; clear HPn; clear hge hg hb
  go_wp2_with fail
  clear hHeld
  refine hK.out _ _ ?_ (fun hHeld => ?_)
  · (try dsimp only); first | done | trivial
  clear hK K
  try simp only [Act.put, List.setIfInBounds_toArray, List.set_cons_zero, List.set_cons_succ]
  refine wpAnyH_take (i := 15) (oi := ({ dst := (some 20), op := (Op.slice 22 (Operand.tmp 16) none (some (Operand.tmp 19)) none), type := 22, pos := "kit.go:34", after := #[{ on := 11, ground := Ground.data }, { on := 14, ground := Ground.data }, { on := 5, ground := Ground.guard }], guard := (some (5, true)) } : Oper)) (v := ?_) rfl (by kernel_rfl) (by kernel_rfl) (by kernel_rfl) (fun _ _ _ h => h) (Or.inl ⟨by rfl, ?_⟩) hHeld ?_
  rotate_left
  · intro w_ hSw; (try dsimp only at hSw); go_simp; try (with_reducible rfl)
  try simp only [Act.put, List.setIfInBounds_toArray, List.set_cons_zero, List.set_cons_succ]
  refine wpAnyH_ready (rs := [16]) (by kernel_rfl) (by simp) ?_
  refine AllReadyH.cons (o := ({ dst := (some 21), op := (Op.call { callee := (Callee.value (Operand.func 19)), args := #[(Operand.tmp 14), (Operand.tmp 20)], argTypes := #[22, 22] }), type := 4, pos := "kit.go:34", after := #[{ on := 9, ground := Ground.data }, { on := 15, ground := Ground.data }, { on := 11, ground := Ground.chain }, { on := 5, ground := Ground.guard }], guard := (some (5, true)) } : Oper)) rfl (fun K hK => ?_) AllReadyH.nil
  go_simp
  go_at_call 19; rw [← HLL.out]; refine (retconkit_SameBytes.calls (some ⟨g, 0, none⟩) _ l (some ⟨g2, 0, none⟩) _ l true _ (C_blkW ((HP.out.below.block g HLT.out).trans HB.out) (by have := HLL.out; have := HM.out; have := HNM.out; omega)) (Nat.le_refl _) (C_blkW (HP.out.blk 0 rfl) (by have := HLL.out; have := HM.out; have := HNM.out; omega)) (Nat.le_refl _) (same_f l)).mono ?_; rintro e w6 ⟨rfl, n6, rfl⟩; have HPn := Aside0.mk (HP.out.drewN n6); clear HP; have HP := HPn; clear HPn
  go_wp2_with fail
  clear hHeld
  refine hK.out _ _ ?_ (fun hHeld => ?_)
  · (try dsimp only); first | done | trivial
  clear hK K
  try simp only [Act.put, List.setIfInBounds_toArray, List.set_cons_zero, List.set_cons_succ]
  refine wpAnyH_take (i := 17) (oi := ({ dst := (some 22), op := (Op.pick (Operand.tmp 10) (Operand.tmp 21) (Operand.const (Value.bool false))), type := 4, pos := "kit.go:34", after := #[{ on := 5, ground := Ground.data }, { on := 16, ground := Ground.data }], guard := none } : Oper)) (v := ?_) rfl (by kernel_rfl) (by kernel_rfl) (by kernel_rfl) (fun _ _ _ h => h) (Or.inl ⟨by rfl, ?_⟩) hHeld ?_
  rotate_left
  · intro w_ hSw; (try dsimp only at hSw); go_simp; try (with_reducible rfl)
  try simp only [Act.put, List.setIfInBounds_toArray, List.set_cons_zero, List.set_cons_succ]
  refine wpAnyH_take (i := 18) (oi := ({ dst := (some 4), op := (Op.assign (Operand.tmp 22)), type := 4, pos := "kit.go:34", after := #[{ on := 17, ground := Ground.data }, { on := 16, ground := Ground.chain }, { on := 0, ground := Ground.phase }, { on := 1, ground := Ground.phase }, { on := 2, ground := Ground.phase }, { on := 3, ground := Ground.phase }, { on := 4, ground := Ground.phase }, { on := 5, ground := Ground.phase }, { on := 6, ground := Ground.phase }, { on := 7, ground := Ground.phase }, { on := 8, ground := Ground.phase }, { on := 9, ground := Ground.phase }, { on := 10, ground := Ground.phase }, { on := 11, ground := Ground.phase }, { on := 12, ground := Ground.phase }, { on := 13, ground := Ground.phase }, { on := 14, ground := Ground.phase }, { on := 15, ground := Ground.phase }, { on := 16, ground := Ground.phase }, { on := 17, ground := Ground.phase }], guard := none } : Oper)) (v := ?_) rfl (by kernel_rfl) (by kernel_rfl) (by kernel_rfl) (fun _ _ _ h => h) (Or.inl ⟨by rfl, ?_⟩) hHeld ?_
  rotate_left
  · intro w_ hSw; (try dsimp only at hSw); go_simp; try (with_reducible rfl)
  try simp only [Act.put, List.setIfInBounds_toArray, List.set_cons_zero, List.set_cons_succ]
  refine wpAnyH_done (by kernel_rfl) ?_ _
  go_wp2
  go_ret
  exact ⟨rfl, HP.out.below⟩
end Go.Proofs.Ytlgnfbgjdkbfoaa.H
