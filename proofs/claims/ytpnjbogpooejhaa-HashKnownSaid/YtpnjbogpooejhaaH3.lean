import Derived.Test.YtpnjbogpooejhaaH2
import Derived.Test.YtpnjbogpooejhaaWTab
namespace Go.Proofs.Ytpnjbogpooejhaa.H
open Go.RowKit Go.Proofs.Ytpnjbogpooejhaa.XH Go.Proofs.YtpnjbogpooejhaaW.PrintWords Go.Proofs.YtpnjbogpooejhaaW.PrintLast Go.Proofs.YtpnjbogpooejhaaW.PrintMore Go.Proofs.YtpnjbogpooejhaaXe Go.Proofs.YtpnjbogpooejhaaXs
set_option linter.unusedVariables false
set_option linter.unusedSimpArgs false
attribute [local go_sem ↓] Go.wp_at_zero Go.wp_at_succ
section
variable {P : Program} {ops : Array Oper} {Q : Exit → Act → World → Prop} {wd : World} {ds : List Nat} {S : World → Prop}
/-- what is asked of an operation that yields a value in this very world -/
def valUpon (w : World) (o : Oper) (a : Act) (K : Act → Prop) : Result Next → Prop
  | .ok (.value v) w' => w' = w ∧ K (a.put o.dst v)
  | _ => False
def wpVal (P : Program) (ops : Array Oper) (w : World) (Q : Act → Prop) : List Oper → Act → Prop
  | [], a => Q a
  | o :: r, a => if Region.wanted o (yielded ops a.tmps) = true then valUpon w o a (wpVal P ops w Q r) ((execOp a.eval o).run P w) else wpVal P ops w Q r (a.put o.dst undef)
theorem wpVal_step {w : World} {Q : Act → Prop} {o : Oper} {r : List Oper} {a : Act} (h : ∀ K : Act → Prop, (∀ a, wpVal P ops w Q r a → K a) → if Region.wanted o (yielded ops a.tmps) = true then valUpon w o a K ((execOp a.eval o).run P w) else K (a.put o.dst undef)) : wpVal P ops w Q (o :: r) a := h _ fun _ h => h
theorem wpVal_nil {w : World} {Q : Act → Prop} {a : Act} (h : Q a) : wpVal P ops w Q [] a := h
def isMove (o : Oper) : Bool := match o.op with | .move _ => true | _ => false
def tailB (ops : Array Oper) (ds : List Nat) : Nat → Nat → Array Bool → Bool
  | 0, _, l => Region.ready .any ops l == []
  | g + 1, k, l => readyB .any ops l (l.setIfInBounds k true) k && ds.contains k && tailB ops ds g (k + 1) (l.setIfInBounds k true)
def mixB (ops : Array Oper) (ds : List Nat) (g : Nat) : Nat → Nat → Array Bool → Bool
  | 0, k, l => tailB ops ds g k l
  | f + 1, k, l => (takeB .any ops ds l (l.setIfInBounds k true) k || ((ops[k]?).any isMove && anyB .any ops l (l.setIfInBounds k true) k)) && mixB ops ds g f (k + 1) (l.setIfInBounds k true)
theorem mix_tail : ∀ (r : List Oper) (k : Nat) (l : Array Bool) (a : Act) (w : World), (∀ j, j < r.length → r[j]? = ops[k + j]?) → tailB ops ds r.length k l = true → wpList P ops Q r a w → wpAnyLast P .any ops Q S ds r.length l a w
  | [], k, l, a, w, _, hB, h => ⟨by simpa [tailB] using hB, h⟩
  | o :: r, k, l, a, w, hr, hB, h => by
    have h0 : ops[k]? = some o := by simpa using (hr 0 (by simp)).symm
    simp only [List.length_cons, tailB, Bool.and_eq_true] at hB
    obtain ⟨⟨h1, h2⟩, h3⟩ := hB
    simp only [readyB, Bool.and_eq_true, beq_iff_eq] at h1
    have hw : wpOp P ops Q k (wpList P ops Q r) a w := by unfold wpOp; simp only [h0]; exact h
    refine wpAnyLast_all (rs := [k]) h1.1 (by simp) fun i hi => ?_
    obtain rfl : i = k := by simpa using hi
    exact wpOp_mono (fun a' w' hk => ⟨fun hn => absurd (by simpa using h2) hn, mix_tail r (i + 1) _ a' w' (fun j hj => by have := hr (j + 1) (by simp; omega); simpa [Nat.add_assoc, Nat.add_comm 1 j] using this) h3 hk⟩) hw
theorem move_yields {o : Oper} {a : Act} (hm : isMove o = true) : ∃ v, Yields P ops o v a ∧ ∀ (w : World) (K : Act → Prop), (if Region.wanted o (yielded ops a.tmps) = true then valUpon w o a K ((execOp a.eval o).run P w) else K (a.put o.dst undef)) → K (a.put o.dst v) := by
  unfold isMove at hm
  split at hm
  · rename_i x hx
    have hrun : ∀ w, (execOp a.eval o).run P w = .ok (.value (a.eval x)) w := fun w => by simp [execOp, hx]
    by_cases hw : Region.wanted o (yielded ops a.tmps) = true
    · exact ⟨a.eval x, .inl ⟨hw, hrun⟩, fun w K h => by rw [if_pos hw, hrun] at h; exact h.2⟩
    · exact ⟨undef, .inr ⟨by simpa using hw, rfl⟩, fun w K h => by rw [if_neg hw] at h; exact h⟩
  · cases hm
theorem mix_head {Lq : Act → Prop} {g n : Nat} (hQ : ∀ (N : Option Tmp) (v : Value) c a w, Q (.panic c) (a.put N v) w → Q (.panic c) a w) (htail : ∀ l a, tailB ops ds g n l = true → Lq a → wpAnyLast P .any ops Q (· = wd) ds g l a wd) : ∀ (r : List Oper) (k : Nat) (l : Array Bool) (a : Act), k + r.length = n → (∀ j, j < r.length → r[j]? = ops[k + j]?) → mixB ops ds g r.length k l = true → wpVal P ops wd Lq r a → wpAnyLast P .any ops Q (· = wd) ds (r.length + g) l a wd
  | [], k, l, a, hn, _, hB, h => by
    rw [List.length_nil, Nat.zero_add]
    obtain rfl : k = n := by simpa using hn
    exact htail l a hB h
  | o :: r, k, l, a, hn, hr, hB, h => by
    have hn' : k + 1 + r.length = n := by rw [List.length_cons] at hn; omega
    have h0 : ops[k]? = some o := by simpa using (hr 0 (by simp)).symm
    simp only [List.length_cons, mixB, Bool.and_eq_true, Bool.or_eq_true] at hB
    obtain ⟨h1, h2⟩ := hB
    have hr' : ∀ j, j < r.length → r[j]? = ops[k + 1 + j]? := fun j hj => by have := hr (j + 1) (by simp; omega); simpa [Nat.add_assoc, Nat.add_comm 1 j] using this
    rw [List.length_cons, show r.length + 1 + g = (r.length + g) + 1 by omega]
    unfold wpVal at h
    rcases h1 with h1 | h1
    · have hv : ∃ v, YieldsIf P ops (· = wd) o v a ∧ wpVal P ops wd Lq r (a.put o.dst v) := by
        by_cases hw : Region.wanted o (yielded ops a.tmps) = true
        · rw [if_pos hw] at h
          generalize hq : (execOp a.eval o).run P wd = res at h
          unfold valUpon at h
          split at h
          · rename_i v w'
            obtain ⟨rfl, h⟩ := h
            exact ⟨v, .inl ⟨hw, fun w hw' => by subst hw'; exact hq⟩, h⟩
          · exact h.elim
        · rw [if_neg hw] at h
          exact ⟨undef, .inr ⟨by simpa using hw, rfl⟩, h⟩
      obtain ⟨v, hy, h⟩ := hv
      exact take_ (l.setIfInBounds k true) h0 rfl h1 (hQ _ _) hy rfl rfl (mix_head hQ htail r (k + 1) _ _ hn' hr' h2 h)
    · rw [h0] at h1
      obtain ⟨v, hy, hv⟩ := move_yields (P := P) (ops := ops) (a := a) (o := o) (by simpa using h1.1)
      exact pure_ (l.setIfInBounds k true) h0 rfl h1.2 (hQ _ _) hy rfl (mix_head hQ htail r (k + 1) _ _ hn' hr' h2 (hv wd _ h))
/-- a region that draws: the first n operations yield in this very world, the others come one behind the other -/
theorem still_mix {l : List Oper} {id : Nat} {a : Act} {w : World} (n : Nat) (ds : List Nat) (hm : P.follows .mixedOrders = true) (hB : mixB l.toArray ds (l.drop n).length (l.take n).length 0 (Array.replicate l.toArray.size false) = true) (hw : w.drew = wd)
    (hQ : ∀ (N : Option Tmp) (v : Value) c a w, Q (.panic c) (a.put N v) w → Q (.panic c) a w) (h : wpVal P l.toArray wd (fun a' => wpList P l.toArray Q (l.drop n) a' wd) (l.take n) a) : (Code.region id l.toArray true).wp P Q a w := by
  subst hw
  refine wp_region_last (S := (· = w.drew)) (ds := ds) hm ?_
  have hnl : n ≤ l.length ∨ l.length < n := by omega
  have := mix_head (Q := Q) (ops := l.toArray) (P := P) (ds := ds) (wd := w.drew) (g := (l.drop n).length) (n := (l.take n).length) hQ (fun lst a' ht hl => mix_tail (l.drop n) (l.take n).length lst a' w.drew (fun j hj => ?_) ht hl) (l.take n) 0 (Array.replicate l.toArray.size false) a (Nat.zero_add _) (fun j hj => ?_) hB h
  · rw [show (l.take n).length + (l.drop n).length = l.toArray.size by simp; omega] at this
    exact this
  · rw [List.length_drop] at hj
    rw [List.getElem?_drop, List.getElem?_toArray, List.length_take, Nat.min_eq_left (by omega)]
  · rw [List.length_take] at hj
    rw [List.getElem?_take, if_pos (by omega), List.getElem?_toArray, Nat.zero_add]
end
theorem C_ints {w : World} {k : IntKind} {ad : Addr} {l : List Int} (hl : l.length ≤ 9223372036854775807) (h : ∀ j x, l[j]? = some x → w.cell? (ad.add j) = some (.int k x)) : Kd.C (Kd.int k) w (some ad) l.length l := by
  refine ⟨rfl, by simpa using hl, fun _ => ⟨_, rfl, fun j p hj => ?_⟩⟩
  refine ⟨[.int k p], rfl, rfl, fun i u hu => ?_⟩
  cases i with
  | zero =>
    simp at hu
    subst hu
    have h1 := h j p hj
    have h2 : (Kd.int k).sz = 1 := rfl
    simpa [h2] using h1
  | succ i => simp at hu
section
variable {P : Program} {T e : TypeId} {N : Nat}
theorem run_cut_arr (hT : P.underlying T = some (.array N e)) (hs : (P.info? e).map (·.size) = some 1) (g o : Nat) (r : Int) (h0 : 0 ≤ r) (h1 : r < N) (w : World) :
    (Instr.sliceAt T (.pointer (some ⟨g, o, none⟩)) (some (.int .i64 r)) none none).run P w = .ok (.slice (some ⟨g, o + r.toNat, none⟩) (N - r.toNat) (N - r.toNat)) w := by
  obtain ⟨i, hi, hsi⟩ := Option.map_eq_some_iff.1 hs
  have h2 : ¬ (N = r.toNat) := by omega
  have h3 : r ≤ (N : Int) := by omega
  have h4 : ¬ ((N : Int) < r) := by omega
  have h5 : r.toNat ≤ N := by omega
  simp [Instr.sliceAt, Instr.sureAddr, run_underlying hT, Instr.sliceBounds, Instr.sliceBound, asIntOf, h0, h2, h3, h4, h5, sizeOf, typeInfo, hi, hsi, add_at]
theorem run_cut_all (hT : P.underlying T = some (.array N e)) (hs : (P.info? e).map (·.size) = some 1) (hN : 0 < N) (g o : Nat) (w : World) :
    (Instr.sliceAt T (.pointer (some ⟨g, o, none⟩)) none none none).run P w = .ok (.slice (some ⟨g, o, none⟩) N N) w := by
  obtain ⟨i, hi, hsi⟩ := Option.map_eq_some_iff.1 hs
  have h2 : ¬ (N = 0) := by omega
  simp [Instr.sliceAt, Instr.sureAddr, run_underlying hT, Instr.sliceBounds, Instr.sliceBound, asIntOf, h2, sizeOf, typeInfo, hi, hsi, add_at]
theorem run_cut_to (hT : P.underlying T = some (.array N e)) (hs : (P.info? e).map (·.size) = some 1) (hN : 0 < N) (g o : Nat) (r : Int) (h0 : 0 ≤ r) (h1 : r ≤ N) (w : World) :
    (Instr.sliceAt T (.pointer (some ⟨g, o, none⟩)) none (some (.int .i64 r)) none).run P w = .ok (.slice (some ⟨g, o, none⟩) r.toNat N) w := by
  obtain ⟨i, hi, hsi⟩ := Option.map_eq_some_iff.1 hs
  have h2 : ¬ (N = 0) := by omega
  have h4 : ¬ ((N : Int) < r) := by omega
  simp [Instr.sliceAt, Instr.sureAddr, run_underlying hT, Instr.sliceBounds, Instr.sliceBound, asIntOf, h0, h1, h2, h4, sizeOf, typeInfo, hi, hsi, add_at]
end
section
variable {P : Program} {ops : Array Oper} {rest : List Oper} {o : Oper} {a : Act} {Q : Exit → Act → World → Prop} {W w0 : World} {Rs : List Res}
theorem set_self {α : Type} {l : List α} {i : Nat} {x : α} (h : l[i]? = some x) : l.set i x = l := by
  apply List.ext_getElem?
  intro j
  have hi : i < l.length := (List.getElem?_eq_some_iff.1 h).1
  rw [List.getElem?_set]
  split
  · subst_vars
    first | exact h.symm | (rw [if_pos hi, h])
  · rfl
/-- a row within a block is written -/
theorem ev_store_mid (HP : Hp w0 W Rs) (i : Nat) {g off : Nat} {cur : List Value} {t : TypeId} (hi : Rs[i]? = some (.blk g (.cells cur.toArray t (0, 0)))) (hgd : o.guard = none) (hdst : o.dst = none) (ty : TypeId) (x y : Operand) (ho : o.op = .store ty x y)
    (hx : a.eval x = .pointer (some ⟨g, off, none⟩)) {cs : List Value} (hy : a.eval y = .agg cs.toArray) (hfit : off + cs.length ≤ cur.length) (hsz : (P.info? ty).map (·.size) = some cs.length) (h1 : ∀ v ∈ cs, v.oneCell' = true)
    (h : ∀ w1, Hp w0 w1 (Rs.set i (.blk g (.cells (cur.take off ++ cs ++ cur.drop (off + cs.length)).toArray t (0, 0)))) → wpList P ops Q rest a w1) : wpList P ops Q (o :: rest) a W := by
  have hg := HP.blk i hi
  refine wpList_store_mid hgd ty x y ho g off cs.toArray hx hy (fun j hj => ?_) (by simpa using hsz) (all_oneCell_toArray h1) ?_
  · simp only [List.size_toArray] at hj
    refine ⟨by rw [cell_of_row W g _ _ _ _ hg]; simp; omega, frozC hg _⟩
  · rw [hdst]
    obtain ⟨cur', h2, h3, h4⟩ := setCells_row cs off W cur.toArray hg (by simpa using hfit)
    obtain ⟨k1, k2, k3, k4⟩ := setCells_same g cs off W
    refine h _ (HP.setB i hi ⟨k1, k2, k3, by simpa using Nat.le_of_eq k4.symm, fun k _ hk => setCells_far cs off k fun e => hk (by rw [e])⟩ ?_)
    rw [show (cur.take off ++ cs ++ cur.drop (off + cs.length)).toArray = cur' from by apply Array.ext'; simpa using h4.symm]
    simpa using h2
/-- copy into a block -/
theorem ev_copy (HP : Hp w0 W Rs) (i : Nat) {g off : Nat} {cur : List Value} {t : TypeId} (hi : Rs[i]? = some (.blk g (.cells cur.toArray t (0, 0)))) (hgd : o.guard = none) (d s : Operand) (dT sT : TypeId)
    (ho : o.op = .call { callee := .builtin .copy, args := #[d, s], argTypes := #[dT, sT] }) (elem : TypeId) (hu : P.underlying dT = some (.slice elem)) (hsz : (P.info? elem).map (·.size) = some 1)
    (dLen dCap : Nat) (hd : a.eval d = .slice (some ⟨g, off, none⟩) dLen dCap) {A : Option Addr} {m c : Nat} (hs : a.eval s = .slice A m c) {k : IntKind} {l : List Int} (hml : l.length = m) (hC : Kd.C (Kd.int k) W A m l) {cs : List Value} (hcs : cs = (l.take dLen).map (Value.int k)) (hfit : off + cs.length ≤ cur.length) {n : Nat} (hn : cs.length = n)
    (h : ∀ w1, Hp w0 w1 (Rs.set i (.blk g (.cells (splice cur off cs).toArray t (0, 0)))) → wpList P ops Q rest (a.put o.dst (goInt n)) w1) : wpList P ops Q (o :: rest) a W := by
  subst hml hn hcs
  have hg := HP.blk i hi
  by_cases h0 : min l.length dLen = 0
  · have hnil : (l.take dLen).map (Value.int k) = [] := by
      rw [List.map_eq_nil_iff, ← List.length_eq_zero_iff, List.length_take]; omega
    rw [hnil] at h
    refine wpList_copy_nothing hgd d s dT sT ho elem hu hsz (some ⟨g, off, none⟩) A dLen dCap l.length c hd hs h0 ?_
    refine h W ?_
    have e1 : splice cur off [] = cur := by simp [splice]
    rw [e1, set_self hi]
    exact HP
  · have hpos : 0 < l.length := by omega
    obtain ⟨_, _, h3⟩ := hC
    obtain ⟨ad, rfl, h4⟩ := h3 hpos
    refine wpList_copy_own hgd d s dT sT ho elem hu hsz g off dLen dCap ad l.length c hd hs cur.toArray t hg ((l.take dLen).map (Value.int k)) (by simp [Nat.min_comm]) (fun j v hv => ?_) (by simpa using hfit) (fun v hv => ?_) ?_
    · rw [List.getElem?_map, Option.map_eq_some_iff] at hv
      obtain ⟨x, hx, rfl⟩ := hv
      rw [List.getElem?_take] at hx
      split at hx
      · obtain ⟨c1, h5, h6, h7⟩ := h4 j x hx
        have h8 : c1 = [.int k x] := h6
        subst h8
        have h9 := h7 0 _ rfl
        have h2 : (Kd.int k).sz = 1 := rfl
        simpa [h2] using h9
      · cases hx
    · obtain ⟨x, _, rfl⟩ := List.mem_map.1 hv
      rfl
    · refine h _ (HP.setB i hi ⟨rfl, rfl, rfl, by rw [setRow_size]; exact Nat.le_refl _, fun q _ hq => setRow_other W g q _ fun e => hq (by rw [e])⟩ ?_)
      have := setRow_heap W g cur.toArray (cur.toArray.toList.take off ++ ((l.take dLen).map (Value.int k) ++ cur.toArray.toList.drop (off + ((l.take dLen).map (Value.int k)).length))).toArray t (0, 0) hg
      simpa [splice] using this
end
/-- the cells of a digest -/
def dc (m : Bool) (v : V8) (p : List Int) (n : Int) : List Value := .bool m :: (u32s v.l ++ (u8s p ++ [.int .i64 n]))
theorem dc_len (m : Bool) (v : V8) (p : List Int) (n : Int) (hp : p.length = 64) : (dc m v p n).length = 74 := by simp [dc, u32s, u8s, V8.l, hp]
theorem dc_n (m : Bool) (v : V8) (p : List Int) (n n' : Int) (hp : p.length = 64) : (dc m v p n).toArray.setIfInBounds 73 (.int .i64 n') = (dc m v p n').toArray := by
  have : (dc m v p n).set 73 (.int .i64 n') = dc m v p n' := by
    unfold dc V8.l u32s
    simp only [List.map_cons, List.map_nil, List.cons_append, List.nil_append, List.set_cons_succ]
    rw [List.set_append_right _ _ (by simp [u8s, hp]), u8s_len, hp]
    rfl
  simpa using this
theorem dc_p (m : Bool) (v : V8) (p q : List Int) (n : Int) (r : Nat) (hp : p.length = 64) (hq : r + q.length ≤ 64) : splice (dc m v p n) (9 + r) (u8s q) = dc m v (splice p r q) n := by
  have e1 : dc m v p n = (.bool m :: u32s v.l) ++ (u8s p ++ [.int .i64 n]) := by simp [dc]
  have e2 : dc m v (splice p r q) n = (.bool m :: u32s v.l) ++ (u8s (splice p r q) ++ [.int .i64 n]) := by simp [dc]
  have hl : (.bool m :: u32s v.l).length = 9 := by simp [u32s, V8.l]
  rw [e1, e2]
  unfold splice
  rw [List.take_append, List.drop_append, hl, show 9 + r - 9 = r by omega, show 9 + r + (u8s q).length - 9 = r + (u8s q).length by omega, List.take_of_length_le (by omega), List.drop_eq_nil_of_le (by omega), List.nil_append, List.append_assoc]
  congr 1
  rw [List.take_append_of_le_length (by rw [u8s_len]; omega), List.drop_append_of_le_length (by rw [u8s_len, u8s_len]; omega)]
  simp [u8s, List.map_append, List.map_take, List.map_drop]
theorem dc_s (m : Bool) (v v' : V8) (p : List Int) (n : Int) : ((dc m v p n).take 1 ++ u32s v'.l ++ (dc m v p n).drop (1 + (u32s v'.l).length)) = dc m v' p n := by
  simp [dc, u32s, V8.l]
section
variable {w : World} {g : Nat} {m : Bool} {v : V8} {p : List Int} {n : Int}
theorem dc_c0 (hg : w.heap[g]? = some (.cells (dc m v p n).toArray 52 (0, 0))) : w.cell? ⟨g, 0, none⟩ = some (.bool m) := by rw [cell_of_row w g _ _ _ _ hg]; rfl
theorem dc_c73 (hp : p.length = 64) (hg : w.heap[g]? = some (.cells (dc m v p n).toArray 52 (0, 0))) : w.cell? ⟨g, 73, none⟩ = some (.int .i64 n) := by
  rw [cell_of_row w g _ _ _ _ hg]
  unfold dc V8.l u32s
  simp only [List.map_cons, List.map_nil, List.cons_append, List.nil_append, List.getElem?_toArray, List.getElem?_cons_succ]
  rw [List.getElem?_append_right (by rw [u8s_len, hp]; omega), u8s_len, hp]
  rfl
theorem dc_rs (hg : w.heap[g]? = some (.cells (dc m v p n).toArray 52 (0, 0))) : w.rangeAt g 1 (u32s v.l) := fun j u hu => by
  rw [cell_of_row w g _ _ _ _ hg]
  have hj : j < (u32s v.l).length := (List.getElem?_eq_some_iff.1 hu).1
  simp only [dc, List.getElem?_toArray]
  rw [Nat.add_comm, List.getElem?_cons_succ, List.getElem?_append_left hj]
  exact hu
theorem dc_rp (hp : p.length = 64) (hg : w.heap[g]? = some (.cells (dc m v p n).toArray 52 (0, 0))) : Kd.C (Kd.int .u8) w (some ⟨g, 9, none⟩) p.length p := by
  refine C_ints (by omega) fun j x hj => ?_
  have hjl : j < p.length := (List.getElem?_eq_some_iff.1 hj).1
  rw [add_at, cell_of_row w g _ _ _ _ hg]
  have e1 : dc m v p n = (.bool m :: u32s v.l) ++ (u8s p ++ [.int .i64 n]) := by simp [dc]
  have hl : (Value.bool m :: u32s v.l).length = 9 := by simp [u32s, V8.l]
  rw [e1, List.getElem?_toArray, List.getElem?_append_right (by omega), hl, show 9 + j - 9 = j by omega, List.getElem?_append_left (by rw [u8s_len]; omega)]
  simp [u8s, hj]
end
end Go.Proofs.Ytpnjbogpooejhaa.H
