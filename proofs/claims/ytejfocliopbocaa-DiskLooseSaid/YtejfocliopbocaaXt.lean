import Derived.Test.YtejfocliopbocaaXs
import Derived.Deep.RegionHeld3
import Derived.Deep.DrawnRows
import Derived.Laws.Tables
import Derived.Laws.CopyOwn
import Derived.Laws.BitsLemmas
import Derived.Test.YtejfocliopbocaaWTab
import Derived.StillTailTactics
/-! Composite resources: several as one, one under an 'exists'; opened and closed in their place in the list. -/
namespace Go.Proofs.YtejfocliopbocaaXs
open Go.RowKit Go.Proofs.YtejfocliopbocaaW.PrintWords Go.Proofs.YtejfocliopbocaaW.PrintLast Go.Proofs.YtejfocliopbocaaW.PrintMore
set_option linter.unusedVariables false
set_option linter.unusedSimpArgs false
theorem Sp.append {b : Nat} {w : World} {l Rs : List Res} {G1 G2 : Nat → Prop} (h1 : Sp b w l G1) (h2 : Sp b w Rs G2) (hd : ∀ k, G1 k → ¬ G2 k) : ∃ G, Sp b w (l ++ Rs) G ∧ ∀ k, G k → G1 k ∨ G2 k := by
  induction h1 with
  | nil => exact ⟨G2, h2, fun k hk => .inr hk⟩
  | @cons R Rs F G a1 a2 a3 a4 ih =>
    obtain ⟨G', g1, g2⟩ := ih fun k hk => hd k (.inr hk)
    refine ⟨_, .cons a1 a2 g1 fun k hk hg => ?_, fun k hk => ?_⟩
    · rcases g2 k hg with h | h
      · exact a4 k hk h
      · exact hd k (.inl hk) h
    · rcases hk with h | h
      · exact .inl (.inl h)
      · rcases g2 k h with h | h
        · exact .inl (.inr h)
        · exact .inr h
theorem Sp.split {b : Nat} {w : World} {Rs : List Res} : ∀ (l : List Res) {G : Nat → Prop}, Sp b w (l ++ Rs) G → ∃ G1 G2, Sp b w l G1 ∧ Sp b w Rs G2 ∧ (∀ k, G1 k → ¬ G2 k) ∧ (∀ k, G1 k → G k) ∧ ∀ k, G2 k → G k
  | [], G, h => ⟨fun _ => False, G, .nil, h, fun k hk => hk.elim, fun k hk => hk.elim, fun k hk => hk⟩
  | R :: l, G, h => by
    cases h with
    | cons a1 a2 a3 a4 =>
      obtain ⟨G1, G2, h1, h2, h3, h4, h5⟩ := Sp.split l a3
      refine ⟨_, G2, .cons a1 a2 h1 fun k hk hg => a4 k hk (h4 k hg), h2, fun k hk hg => ?_, fun k hk => ?_, fun k hk => .inr (h5 k hk)⟩
      · rcases hk with h | h
        · exact a4 k h (h5 k hg)
        · exact h3 k h hg
      · rcases hk with h | h
        · exact .inl h
        · exact .inr (h4 k h)
theorem Sp.raise {b b' : Nat} {w : World} {Rs : List Res} {G : Nat → Prop} (h : Sp b w Rs G) (hb : ∀ k, G k → b' ≤ k) : Sp b' w Rs G := by
  induction h with
  | nil => exact .nil
  | cons a1 a2 a3 a4 ih => exact .cons a1 (fun k hk => hb k (.inl hk)) (ih fun k hk => hb k (.inr hk)) a4
theorem Sp.insert {b : Nat} {w : World} {R : Res} {F : Nat → Prop} (hR : R.P w F) (hb : ∀ k, F k → b ≤ k) : ∀ (i : Nat) {Rs : List Res} {G : Nat → Prop}, Sp b w Rs G → Rs[i]? = some Res.none → (∀ k, F k → ¬ G k) → ∃ G', Sp b w (Rs.set i R) G' ∧ ∀ k, G' k → G k ∨ F k
  | i, [], G, h, hi, hd => by simp at hi
  | 0, R0 :: Rs, _, h, hi, hd => by
    simp at hi
    subst hi
    cases h with
    | cons a1 a2 a3 a4 =>
      refine ⟨_, .cons hR hb a3 fun k hk hg => hd k hk (.inr hg), fun k hk => ?_⟩
      rcases hk with h | h
      · exact .inr h
      · exact .inl (.inr h)
  | i + 1, R0 :: Rs, _, h, hi, hd => by
    cases h with
    | cons a1 a2 a3 a4 =>
      obtain ⟨G', h1, h2⟩ := Sp.insert hR hb i a3 (by simpa using hi) fun k hk hg => hd k hk (.inr hg)
      refine ⟨_, .cons a1 a2 h1 fun k hk hg => ?_, fun k hk => ?_⟩
      · rcases h2 k hg with h | h
        · exact a4 k hk h
        · exact hd k h (.inl hk)
      · rcases hk with h | h
        · exact .inl (.inl h)
        · rcases h2 k h with h | h
          · exact .inl (.inr h)
          · exact .inr h
/-- several as one -/
def Res.all (l : List Res) : Res :=
  ⟨fun w F => ∃ G, Sp 0 w l G ∧ ∀ k, F k ↔ G k, fun ⟨G, h, hG⟩ hm => ⟨G, h.frame fun k hk => hm k ((hG k).2 hk), hG⟩, fun ⟨G, h, hG⟩ k hk => (h.lt k ((hG k).1 hk)).2⟩
/-- one under an 'exists' -/
def Res.ex {α : Type} (f : α → Res) : Res :=
  ⟨fun w F => ∃ x, (f x).P w F, fun ⟨x, h⟩ hm => ⟨x, (f x).move h hm⟩, fun ⟨x, h⟩ k hk => (f x).lt h k hk⟩
/-- one with a fact -/
def Res.fact (p : Prop) (R : Res) : Res :=
  ⟨fun w F => p ∧ R.P w F, fun ⟨x, h⟩ hm => ⟨x, R.move h hm⟩, fun ⟨x, h⟩ k hk => R.lt h k hk⟩
section
variable {w0 w : World} {Rs : List Res} {l : List Res} {i : Nat}
theorem Hp.as (h : Hp w0 w Rs) (i : Nat) {R R' : Res} (hi : Rs[i]? = some R) (hr : ∀ F, R.P w F → R'.P w F) : Hp w0 w (Rs.set i R') := by
  obtain ⟨F, h1, _, _, h4⟩ := h.upd i hi
  exact h4 w R' F h.below (hr F h1) (fun k hk => .inl hk) fun k _ _ => rfl
theorem Hp.opn (h : Hp w0 w Rs) (i : Nat) (hi : Rs[i]? = some (.all l)) : Hp w0 w (l ++ Rs.set i .none) := by
  obtain ⟨G, hs⟩ := h.sp
  obtain ⟨F, ⟨G1, g1, g2⟩, hF, _, h4⟩ := hs.upd i hi
  obtain ⟨G', s1, s2⟩ := h4 w .none (fun _ => False) (fun k hk => hk) (fun k hk => hk.elim) (fun k _ _ => rfl) h.size
  obtain ⟨G2, t1, _⟩ := Sp.append (g1.raise (b' := w0.heap.size) fun k hk => (hs.lt k (hF k ((g2 k).2 hk))).1) s1 fun k hk hg => by
    rcases s2 k hg with h | h
    · rcases h.2 with h' | h'
      · exact h'
      · exact h' ((g2 k).2 hk)
    · exact h
  exact ⟨h.below, G2, t1⟩
theorem Hp.cls (l : List Res) (h : Hp w0 w (l ++ Rs)) (i : Nat) (hi : Rs[i]? = some .none) : Hp w0 w (Rs.set i (.all l)) := by
  obtain ⟨G, hs⟩ := h.sp
  obtain ⟨G1, G2, h1, h2, h3, h4, h5⟩ := Sp.split l hs
  obtain ⟨G', t1, _⟩ := Sp.insert (R := .all l) (F := G1) ⟨G1, h1.raise fun k _ => Nat.zero_le k, fun k => Iff.rfl⟩ (fun k hk => (h1.lt k hk).1) i h2 hi h3
  exact ⟨h.below, G', t1⟩
theorem Hp.unex {α : Type} {f : α → Res} (h : Hp w0 w Rs) (i : Nat) (hi : Rs[i]? = some (.ex f)) : ∃ x, Hp w0 w (Rs.set i (f x)) := by
  obtain ⟨F, ⟨x, h1⟩, _, _, h4⟩ := h.upd i hi
  exact ⟨x, h4 w (f x) F h.below h1 (fun k hk => .inl hk) fun k _ _ => rfl⟩
theorem Hp.unfact {p : Prop} {R : Res} (h : Hp w0 w Rs) (i : Nat) (hi : Rs[i]? = some (.fact p R)) : p ∧ Hp w0 w (Rs.set i R) := by
  obtain ⟨F, ⟨x, h1⟩, _, _, h4⟩ := h.upd i hi
  exact ⟨x, h4 w R F h.below h1 (fun k hk => .inl hk) fun k _ _ => rfl⟩
theorem Hp.toex {α : Type} (f : α → Res) (x : α) (h : Hp w0 w Rs) (i : Nat) (hi : Rs[i]? = some (f x)) : Hp w0 w (Rs.set i (.ex f)) := h.as i hi fun F hF => ⟨x, hF⟩
theorem Hp.tofact {p : Prop} {R : Res} (hp : p) (h : Hp w0 w Rs) (i : Nat) (hi : Rs[i]? = some R) : Hp w0 w (Rs.set i (.fact p R)) := h.as i hi fun F hF => ⟨hp, hF⟩
theorem Hp.dropN : ∀ (l : List Res), Hp w0 w (l ++ Rs) → Hp w0 w Rs
  | [], h => h
  | R :: l, h => Hp.dropN l h.drop1
theorem set_get {α : Type} {l : List α} {i : Nat} (x : α) (h : i < l.length) : (l.set i x)[i]? = some x := by simp [h]
/-- opened: under 'exists', a fact, several -/
theorem Hp.openE {α : Type} {p : α → Prop} {f : α → List Res} (h : Hp w0 w Rs) (i : Nat) (hi : Rs[i]? = some (.ex fun x => .fact (p x) (.all (f x)))) : ∃ x, p x ∧ Hp w0 w (f x ++ Rs.set i .none) := by
  have hl : i < Rs.length := (List.getElem?_eq_some_iff.1 hi).1
  obtain ⟨x, h1⟩ := h.unex i hi
  obtain ⟨h2, h3⟩ := h1.unfact i (set_get _ hl)
  have h4 := h3.opn i (set_get _ (by simpa using hl))
  simp only [List.set_set] at h4
  exact ⟨x, h2, h4⟩
theorem Hp.closeE {α : Type} {p : α → Prop} (f : α → List Res) (x : α) (hp : p x) (i : Nat) (hl : i < Rs.length) (h : Hp w0 w (f x ++ Rs.set i .none)) : Hp w0 w (Rs.set i (.ex fun x => .fact (p x) (.all (f x)))) := by
  have h1 := Hp.cls (f x) h i (set_get _ hl)
  have h2 := h1.tofact hp i (set_get _ (by simpa using hl))
  have h3 := h2.toex (fun x => .fact (p x) (.all (f x))) x i (set_get _ (by simpa using hl))
  simpa only [List.set_set] using h3
/-- read without the resource i -/
def Rd {α : Type} (d : Kd α) (w0 : World) (Rs : List Res) (i : Nat) (A : Option Addr) (n : Nat) (xs : List α) : Prop := ∀ (w : World) (X : Res), Hp w0 w (Rs.set i X) → d.C w A n xs
theorem Rd.below {α : Type} {d : Kd α} {A : Option Addr} {n : Nat} {xs : List α} (h : d.C w0 A n xs) : Rd d w0 Rs i A n xs := fun _ _ hp => Kd.C_below h hp.below
theorem Rd.row {α : Type} {d : Kd α} {A : Option Addr} {n c e base : Nat} {xs : List α} (j : Nat) (hj : i ≠ j) (h : Rs[j]? = some (.row d e base (.slice A n c) xs)) : Rd d w0 Rs i A n xs := fun w X hp => by
  have h1 := hp.row j (d := d) (e := e) (base := base) (v := .slice A n c) (xs := xs) (by rw [List.getElem?_set_ne hj]; exact h)
  have h2 := Kd.R_reads' h1
  rw [h2.1]
  exact h2.2.2
end
theorem fold_at : ∀ (cs : List Value) (k off : Nat) (arr : Array Value), off + k + cs.length ≤ arr.size → (cs.zipIdx k).foldl (fun a (x : Value × Nat) => a.setIfInBounds (off + x.2) x.1) arr = (arr.toList.take (off + k) ++ cs ++ arr.toList.drop (off + k + cs.length)).toArray := by
  intro cs
  induction cs with
  | nil =>
    intro k off arr h
    simp
  | cons c cs ih =>
    intro k off arr h
    rw [List.zipIdx_cons, List.foldl_cons, ih (k + 1) off _ (by simp at h ⊢; omega)]
    congr 1
    simp only [Array.toList_setIfInBounds, List.length_cons] at h ⊢
    rw [show off + (k + 1) = (off + k) + 1 by omega, List.take_succ_eq_append_getElem (by simp; omega), List.take_set_of_le (Nat.le_refl _)]
    rw [show off + k + 1 + cs.length = off + k + (cs.length + 1) by omega, List.drop_set_of_lt (by omega)]
    simp
theorem fill_two (z : Array Value) (k : IntKind) (x : Int) (cs : List Value) (hz : z.size = 1 + cs.length) : Instr.fill ((#[(0, 1), (1, cs.length)] : Array (Nat × Nat))[·]?) z [(0, .int k x), (1, .agg cs.toArray)] = some (.int k x :: cs).toArray := by
  have h1 : ¬ (z.size = 0) := by omega
  have h2 : ¬ (z.size < 1 + cs.length) := by omega
  have hf := fold_at cs 0 1 (z.setIfInBounds 0 (.int k x)) (by simp; omega)
  have h3 : (z.toList.set 0 (.int k x)).take 1 = [.int k x] := by
    cases hl : z.toList with
    | nil =>
      have := congrArg List.length hl
      rw [Array.length_toList] at this
      exact absurd this (by simpa using h1)
    | cons a l => simp
  have h4 : (z.toList.set 0 (.int k x)).drop (1 + cs.length) = [] := List.drop_eq_nil_of_le (by simp; omega)
  simp [Instr.fill, Value.cells, h1, h2, hf, h3, h4]
theorem built_of {P : Program} {t : TypeId} {fields : Array Field} {z : Value} {places : List (Nat × Nat)} {parts : List (Nat × Value)} {cells : Array Value} (hz : (P.info? t).map (·.zero) = some (some z)) (hu : P.underlying t = some (.struct fields)) (hp : fields.toList.mapM (fun f => (P.info? f.type).map fun i => (f.offset, i.size)) = some places) (hf : Instr.fill (places.toArray[·]?) z.cells parts = some cells) : P.built t parts = some cells := by
  obtain ⟨it, h1, h2⟩ := Option.map_eq_some_iff.1 hz
  unfold Program.built
  simp only [h1, hu, h2, hp, hf]
theorem run_op_build {P : Program} {o : Oper} {a : Act} {w : World} (t : TypeId) (parts : Array (Nat × Operand)) (ho : o.op = .build t parts) (vals : List (Nat × Value)) (hv : parts.toList.map (fun (x : Nat × Operand) => (x.1, a.eval x.2)) = vals) {cells : Array Value} (hb : P.built t vals = some cells) : (execOp a.eval o).run P w = .ok (.value (.agg cells)) w := by
  have hv2 : (parts.map fun x => match x with | (i, x) => (i, a.eval x)) = vals.toArray := by
    apply Array.ext'
    rw [Array.toList_map]
    exact hv
  have h := run_build (P := P) w t vals.toArray cells hb
  unfold execOp
  simp only [ho]
  rw [hv2]
  simp [Sem.run_bind, h, Result.andThen]
theorem range_C {k : IntKind} {w : World} {b o n : Nat} {l : List Int} (h : (Kd.int k).C w (some ⟨b, o, none⟩) n l) : w.rangeAt b o (l.map (Value.int k)) := fun j u hu => by
  rw [List.getElem?_map, Option.map_eq_some_iff] at hu
  obtain ⟨x, hx, rfl⟩ := hu
  have hl : j < l.length := (List.getElem?_eq_some_iff.1 hx).1
  obtain ⟨h1, _, h3⟩ := h
  obtain ⟨ad, had, h4⟩ := h3 (by omega)
  cases had
  obtain ⟨c1, _, h6, h7⟩ := h4 j x hx
  have h8 : c1 = [.int k x] := h6
  subst h8
  have h9 := h7 0 _ rfl
  have h2 : (Kd.int k).sz = 1 := rfl
  simpa [h2, add_at] using h9
section
variable {P : Program} {ops : Array Oper} {rest : List Oper} {o : Oper} {a : Act} {Q : Exit → Act → World → Prop} {W : World}
/-- a value of one cell is boxed -/
theorem ev_boxv (hw : Region.wanted o (yielded ops a.tmps) = true) (t : TypeId) (x : Operand) (ho : o.op = .box t x) (v : Value) (hx : a.eval x = v) (hv : v.cells = #[v])
    (h : ∀ g w1, W.heap.size ≤ g → w1.heap[g]? = some (.cells #[v] t (0, 0)) → Below W.heap.size W w1 → wpList P ops Q rest (a.put o.dst (.pointer (some ⟨g, 0, Option.none⟩))) w1) : wpList P ops Q (o :: rest) a W := by
  refine wpList_on hw fun K hK => ?_
  unfold Oper.wp execOp
  simp only [ho, hx, Instr.box, newVar, newRow, hv, Sem.run_bind, Sem.run_pure, Result.andThen_ok, run_newObj]
  exact hK _ _ (h _ _ (Nat.le_refl _) (blk_new W _) (below_alloc (Below.refl _ _) _))
theorem st_run {Kc : Act → World → Prop} (hw : Region.wanted o (yielded ops a.tmps) = true) {w1 : World} {v : Value} (hrun : (execOp a.eval o).run P W = .ok (.value v) w1) (h : Kc (a.put o.dst v) w1) : if Region.wanted o (yielded ops a.tmps) = true then Oper.wp P o a W Kc Q else Kc (a.put o.dst undef) W := by
  rw [if_pos hw]
  unfold Oper.wp
  rw [hrun]
  exact h
end
theorem C_addrK {α : Type} {d : Kd α} (hsz : 0 < d.sz) {w : World} {A : Option Addr} {n : Nat} {l : List α} (h : d.C w A n l) (hn : 0 < n) : ∃ b o, A = some ⟨b, o, none⟩ := by
  obtain ⟨h1, _, h3⟩ := h
  obtain ⟨ad, had, h4⟩ := h3 hn
  have hpos : 0 < l.length := by omega
  obtain ⟨c1, h5, h6, h7⟩ := h4 0 (l[0]'hpos) (List.getElem?_eq_getElem hpos)
  cases c1 with
  | nil => simp at h5; omega
  | cons u c1 =>
    have h9 := h7 0 u rfl
    rcases ad with ⟨b, o, _ | q⟩
    · exact ⟨b, o, had⟩
    · exfalso
      simp [World.cell?, Addr.add] at h9
      split at h9 <;> simp at h9
theorem range_K {α : Type} {d : Kd α} {w : World} {b o n : Nat} {l : List α} (h : d.C w (some ⟨b, o, none⟩) n l) {j : Nat} {x : α} (hj : l[j]? = some x) : ∃ cs, d.K w x cs ∧ w.rangeAt b (o + j * d.sz) cs := by
  have hl : j < l.length := (List.getElem?_eq_some_iff.1 hj).1
  obtain ⟨h1, _, h3⟩ := h
  obtain ⟨ad, had, h4⟩ := h3 (by omega)
  cases had
  obtain ⟨c1, h5, h6, h7⟩ := h4 j x hj
  refine ⟨c1, h6, fun i u hu => ?_⟩
  have h9 := h7 i u hu
  rw [add_at] at h9
  rwa [show o + j * d.sz + i = o + (j * d.sz + i) by omega]
theorem i64k {x y : Int} (h : x = y) (hb : -9223372036854775808 ≤ y ∧ y ≤ 9223372036854775807) : IntKind.i64.wrap x = y := by subst h; rw [i64_w]; unfold wrap64; omega
section
variable {w : World} {g : Nat} {l : List Int} {t : TypeId} {k : IntKind}
theorem cellL (hg : w.heap[g]? = some (.cells (l.map (Value.int k)).toArray t (0, 0))) (j : Int) (h0 : 0 ≤ j) (h1 : j < l.length) : w.cell? ⟨g, j.toNat, none⟩ = some (.int k (rd l j)) := by
  have hl : j.toNat < l.length := by omega
  rw [cell_of_row w g _ _ t (0, 0) hg]
  simp [rd, hl]
theorem cellN (hg : w.heap[g]? = some (.cells (l.map (Value.int k)).toArray t (0, 0))) (i : Nat) (h1 : i < l.length) : w.cell? ⟨g, i, none⟩ = some (.int k (rd l i)) := cellL hg (i : Int) (by omega) (by omega)
theorem frozC {cs : Array Value} (hg : w.heap[g]? = some (.cells cs t (0, 0))) (i : Nat) : w.frozen? ⟨g, i, none⟩ = false := by simp [World.frozen?, hg]
theorem setL (l : List Int) (i : Nat) (x : Int) : (l.map (Value.int k)).toArray.setIfInBounds i (.int k x) = ((l.set i x).map (Value.int k)).toArray := by simp [List.map_set]
end
theorem C_ints {w : World} {k : IntKind} {ad : Addr} {l : List Int} (hl : l.length ≤ 9223372036854775807) (h : ∀ j x, l[j]? = some x → w.cell? (ad.add j) = some (.int k x)) : Kd.C (Kd.int k) w (some ad) l.length l := by
  refine ⟨rfl, by simpa using hl, fun _ => ⟨_, rfl, fun j p hj => ?_⟩⟩
  refine ⟨[.int k p], rfl, rfl, fun i u hu => ?_⟩
  cases i with
  | zero =>
    simp at hu
    subst hu
    have h1 := h j p hj
    have h2 : (Kd.int k).sz = 1 := rfl
    simpa [h2] using h1
  | succ i => simp at hu
section
variable {P : Program} {T e : TypeId} {N : Nat}
theorem run_cut_arr (hT : P.underlying T = some (.array N e)) (hs : (P.info? e).map (·.size) = some 1) (g o : Nat) (r : Int) (h0 : 0 ≤ r) (h1 : r < N) (w : World) :
    (Instr.sliceAt T (.pointer (some ⟨g, o, none⟩)) (some (.int .i64 r)) none none).run P w = .ok (.slice (some ⟨g, o + r.toNat, none⟩) (N - r.toNat) (N - r.toNat)) w := by
  obtain ⟨i, hi, hsi⟩ := Option.map_eq_some_iff.1 hs
  have h2 : ¬ (N = r.toNat) := by omega
  have h3 : r ≤ (N : Int) := by omega
  have h4 : ¬ ((N : Int) < r) := by omega
  have h5 : r.toNat ≤ N := by omega
  simp [Instr.sliceAt, Instr.sureAddr, run_underlying hT, Instr.sliceBounds, Instr.sliceBound, asIntOf, h0, h2, h3, h4, h5, sizeOf, typeInfo, hi, hsi, add_at]
theorem run_cut_all (hT : P.underlying T = some (.array N e)) (hs : (P.info? e).map (·.size) = some 1) (hN : 0 < N) (g o : Nat) (w : World) :
    (Instr.sliceAt T (.pointer (some ⟨g, o, none⟩)) none none none).run P w = .ok (.slice (some ⟨g, o, none⟩) N N) w := by
  obtain ⟨i, hi, hsi⟩ := Option.map_eq_some_iff.1 hs
  have h2 : ¬ (N = 0) := by omega
  simp [Instr.sliceAt, Instr.sureAddr, run_underlying hT, Instr.sliceBounds, Instr.sliceBound, asIntOf, h2, sizeOf, typeInfo, hi, hsi, add_at]
theorem run_cut_to (hT : P.underlying T = some (.array N e)) (hs : (P.info? e).map (·.size) = some 1) (hN : 0 < N) (g o : Nat) (r : Int) (h0 : 0 ≤ r) (h1 : r ≤ N) (w : World) :
    (Instr.sliceAt T (.pointer (some ⟨g, o, none⟩)) none (some (.int .i64 r)) none).run P w = .ok (.slice (some ⟨g, o, none⟩) r.toNat N) w := by
  obtain ⟨i, hi, hsi⟩ := Option.map_eq_some_iff.1 hs
  have h2 : ¬ (N = 0) := by omega
  have h4 : ¬ ((N : Int) < r) := by omega
  simp [Instr.sliceAt, Instr.sureAddr, run_underlying hT, Instr.sliceBounds, Instr.sliceBound, asIntOf, h0, h1, h2, h4, sizeOf, typeInfo, hi, hsi, add_at]
end
section
variable {P : Program} {ops : Array Oper} {rest : List Oper} {o : Oper} {a : Act} {Q : Exit → Act → World → Prop} {W w0 : World} {Rs : List Res}
theorem set_self {α : Type} {l : List α} {i : Nat} {x : α} (h : l[i]? = some x) : l.set i x = l := by
  apply List.ext_getElem?
  intro j
  have hi : i < l.length := (List.getElem?_eq_some_iff.1 h).1
  rw [List.getElem?_set]
  split
  · subst_vars
    first | exact h.symm | (rw [if_pos hi, h])
  · rfl
/-- a row within a block is written -/
theorem ev_store_mid (HP : Hp w0 W Rs) (i : Nat) {g off : Nat} {cur : List Value} {t : TypeId} (hi : Rs[i]? = some (.blk g (.cells cur.toArray t (0, 0)))) (hgd : o.guard = none) (hdst : o.dst = none) (ty : TypeId) (x y : Operand) (ho : o.op = .store ty x y)
    (hx : a.eval x = .pointer (some ⟨g, off, none⟩)) {cs : List Value} (hy : a.eval y = .agg cs.toArray) (hfit : off + cs.length ≤ cur.length) (hsz : (P.info? ty).map (·.size) = some cs.length) (h1 : ∀ v ∈ cs, v.oneCell' = true)
    (h : ∀ w1, Hp w0 w1 (Rs.set i (.blk g (.cells (cur.take off ++ cs ++ cur.drop (off + cs.length)).toArray t (0, 0)))) → wpList P ops Q rest a w1) : wpList P ops Q (o :: rest) a W := by
  have hg := HP.blk i hi
  refine wpList_store_mid hgd ty x y ho g off cs.toArray hx hy (fun j hj => ?_) (by simpa using hsz) (all_oneCell_toArray h1) ?_
  · simp only [List.size_toArray] at hj
    refine ⟨by rw [cell_of_row W g _ _ _ _ hg]; simp; omega, frozC hg _⟩
  · rw [hdst]
    obtain ⟨cur', h2, h3, h4⟩ := setCells_row cs off W cur.toArray hg (by simpa using hfit)
    obtain ⟨k1, k2, k3, k4⟩ := setCells_same g cs off W
    refine h _ (HP.setB i hi ⟨k1, k2, k3, by simpa using Nat.le_of_eq k4.symm, fun k _ hk => setCells_far cs off k fun e => hk (by rw [e])⟩ ?_)
    rw [show (cur.take off ++ cs ++ cur.drop (off + cs.length)).toArray = cur' from by apply Array.ext'; simpa using h4.symm]
    simpa using h2
/-- copy into a block -/
theorem ev_copy (HP : Hp w0 W Rs) (i : Nat) {g off : Nat} {cur : List Value} {t : TypeId} (hi : Rs[i]? = some (.blk g (.cells cur.toArray t (0, 0)))) (hgd : o.guard = none) (d s : Operand) (dT sT : TypeId)
    (ho : o.op = .call { callee := .builtin .copy, args := #[d, s], argTypes := #[dT, sT] }) (elem : TypeId) (hu : P.underlying dT = some (.slice elem)) (hsz : (P.info? elem).map (·.size) = some 1)
    (dLen dCap : Nat) (hd : a.eval d = .slice (some ⟨g, off, none⟩) dLen dCap) {A : Option Addr} {m c : Nat} (hs : a.eval s = .slice A m c) {k : IntKind} {l : List Int} (hml : l.length = m) (hC : Kd.C (Kd.int k) W A m l) {cs : List Value} (hcs : cs = (l.take dLen).map (Value.int k)) (hfit : off + cs.length ≤ cur.length) {n : Nat} (hn : cs.length = n)
    (h : ∀ w1, Hp w0 w1 (Rs.set i (.blk g (.cells (splice cur off cs).toArray t (0, 0)))) → wpList P ops Q rest (a.put o.dst (goInt n)) w1) : wpList P ops Q (o :: rest) a W := by
  subst hml hn hcs
  have hg := HP.blk i hi
  by_cases h0 : min l.length dLen = 0
  · have hnil : (l.take dLen).map (Value.int k) = [] := by
      rw [List.map_eq_nil_iff, ← List.length_eq_zero_iff, List.length_take]; omega
    rw [hnil] at h
    refine wpList_copy_nothing hgd d s dT sT ho elem hu hsz (some ⟨g, off, none⟩) A dLen dCap l.length c hd hs h0 ?_
    refine h W ?_
    have e1 : splice cur off [] = cur := by simp [splice]
    rw [e1, set_self hi]
    exact HP
  · have hpos : 0 < l.length := by omega
    obtain ⟨_, _, h3⟩ := hC
    obtain ⟨ad, rfl, h4⟩ := h3 hpos
    refine wpList_copy_own hgd d s dT sT ho elem hu hsz g off dLen dCap ad l.length c hd hs cur.toArray t hg ((l.take dLen).map (Value.int k)) (by simp [Nat.min_comm]) (fun j v hv => ?_) (by simpa using hfit) (fun v hv => ?_) ?_
    · rw [List.getElem?_map, Option.map_eq_some_iff] at hv
      obtain ⟨x, hx, rfl⟩ := hv
      rw [List.getElem?_take] at hx
      split at hx
      · obtain ⟨c1, h5, h6, h7⟩ := h4 j x hx
        have h8 : c1 = [.int k x] := h6
        subst h8
        have h9 := h7 0 _ rfl
        have h2 : (Kd.int k).sz = 1 := rfl
        simpa [h2] using h9
      · cases hx
    · obtain ⟨x, _, rfl⟩ := List.mem_map.1 hv
      rfl
    · refine h _ (HP.setB i hi ⟨rfl, rfl, rfl, by rw [setRow_size]; exact Nat.le_refl _, fun q _ hq => setRow_other W g q _ fun e => hq (by rw [e])⟩ ?_)
      have := setRow_heap W g cur.toArray (cur.toArray.toList.take off ++ ((l.take dLen).map (Value.int k) ++ cur.toArray.toList.drop (off + ((l.take dLen).map (Value.int k)).length))).toArray t (0, 0) hg
      simpa [splice] using this
end
theorem C_addr {k : IntKind} {w : World} {A : Option Addr} {n : Nat} {l : List Int} (h : (Kd.int k).C w A n l) (hn : 0 < n) (hl : l.length = n) : ∃ b o, A = some ⟨b, o, none⟩ := by
  obtain ⟨h1, _, h3⟩ := h
  obtain ⟨ad, had, h4⟩ := h3 hn
  have hpos : 0 < l.length := by omega
  obtain ⟨c1, h5, h6, h7⟩ := h4 0 (l[0]'hpos) (List.getElem?_eq_getElem hpos)
  have h8 : c1 = [.int k (l[0]'hpos)] := h6
  subst h8
  have h9 := h7 0 _ rfl
  rcases ad with ⟨b, o, _ | q⟩
  · exact ⟨b, o, had⟩
  · exfalso
    simp [World.cell?, Addr.add] at h9
    split at h9 <;> simp at h9
theorem enters_fn {P : Program} {f : FuncId} {fn : Func} {c : Code} (hf : P.funcs[f]? = some fn) (hname : (fn.name == "runtime.NumGoroutine") = false) (hb : fn.body = some c) (args : Array Value) (w : World) : (callFunc f args).run P w = .ok (.enter f args) w := by
  have h1 : fn.name ≠ "runtime.NumGoroutine" := by simpa using hname
  simp [callFunc, hf, h1, hb]
theorem Hp.rot3 {w0 w : World} {R A B C : Res} {Rs : List Res} (h : Hp w0 w (R :: A :: B :: C :: Rs)) : Hp w0 w ([A, B, C] ++ (R :: Rs)) := by
  obtain ⟨hb, G, hs⟩ := h
  cases hs with
  | @cons _ _ F G1 h1 h2 h3 h4 =>
    obtain ⟨G2, G3, k1, k2, k3, k4, k5⟩ := Sp.split [A, B, C] h3
    obtain ⟨G', s1, _⟩ := Sp.append k1 (.cons h1 h2 k2 fun k hk hg => h4 k hk (k5 k hg)) (fun k hk hg => by
      rcases hg with hg | hg
      · exact h4 k hg (k4 k hk)
      · exact k3 k hk hg)
    exact ⟨hb, G', s1⟩
section
variable {P : Program} {ops : Array Oper} {o : Oper} {a : Act} {Q : Exit → Act → World → Prop} {W w0 : World} {Rs : List Res} {Kc : Act → World → Prop} {E : Prop}
theorem st_go (hw : Region.wanted o (yielded ops a.tmps) = true) (h : Oper.wp P o a W Kc Q) : if Region.wanted o (yielded ops a.tmps) = true then Oper.wp P o a W Kc Q else E := by rw [if_pos hw]; exact h
theorem st_alloc (hw : Region.wanted o (yielded ops a.tmps) = true) (t : TypeId) (ho : o.op = .alloc t) (z : Value) (hz : (P.info? t).map (·.zero) = some (some z))
    (h : ∀ g w1, W.heap.size ≤ g → w1.heap[g]? = some (.cells z.cells t (0, 0)) → Below W.heap.size W w1 → Kc (a.put o.dst (.pointer (some ⟨g, 0, Option.none⟩))) w1) : if Region.wanted o (yielded ops a.tmps) = true then Oper.wp P o a W Kc Q else E := by
  refine st_go hw ?_
  obtain ⟨i, hi, hzi⟩ := Option.map_eq_some_iff.1 hz
  have hzr : (zeroValue t).run P W = .ok z W := by simp [zeroValue, typeInfo, hi, hzi]
  unfold Oper.wp execOp
  simp only [ho, Instr.alloc, hzr, newVar, newRow, Sem.run_bind, Sem.run_pure, Result.andThen_ok, run_newObj]
  exact h _ _ (Nat.le_refl _) (blk_new W _) (below_alloc (Below.refl _ _) _)
theorem st_store (hw : Region.wanted o (yielded ops a.tmps) = true) (ty : TypeId) (x y : Operand) (ho : o.op = .store ty x y) (hdst : o.dst = Option.none) (g : Nat) (hx : a.eval x = .pointer (some ⟨g, 0, Option.none⟩)) {cells : Array Value} (hy : a.eval y = .agg cells) {t : TypeId} {old : Array Value} (hg : W.heap[g]? = some (.cells old t (0, 0)))
    (hi : (P.info? ty).map (·.size) = some cells.size) (hs : old.size = cells.size) (h1 : cells.all (·.oneCell') = true)
    (h : ∀ w1, w1.heap[g]? = some (.cells cells t (0, 0)) → W.grownBy w1 (some g) → Kc a w1) : if Region.wanted o (yielded ops a.tmps) = true then Oper.wp P o a W Kc Q else E := by
  refine st_go hw ?_
  refine wp_store_row ty x y ho g cells hx hy t old hg hi hs h1 ?_
  rw [hdst]
  exact h _ (setRow_heap W g old cells t (0, 0) hg) ⟨rfl, rfl, rfl, by rw [setRow_size]; exact Nat.le_refl _, fun k _ hk => setRow_other W g k cells fun e => hk (by rw [e])⟩
theorem st_copy (HP : Hp w0 W Rs) (i : Nat) {g off : Nat} {cur : List Value} {t : TypeId} (hi : Rs[i]? = some (.blk g (.cells cur.toArray t (0, 0)))) (hw : Region.wanted o (yielded ops a.tmps) = true) (d s : Operand) (dT sT : TypeId)
    (ho : o.op = .call { callee := .builtin .copy, args := #[d, s], argTypes := #[dT, sT] }) (elem : TypeId) (hu : P.underlying dT = some (.slice elem)) (hsz : (P.info? elem).map (·.size) = some 1)
    (dLen dCap : Nat) (hd : a.eval d = .slice (some ⟨g, off, none⟩) dLen dCap) {A : Option Addr} {m c : Nat} (hs : a.eval s = .slice A m c) {k : IntKind} {l : List Int} (hml : l.length = m) (hC : Kd.C (Kd.int k) W A m l) {cs : List Value} (hcs : cs = (l.take dLen).map (Value.int k)) (hfit : off + cs.length ≤ cur.length) {n : Nat} (hn : cs.length = n)
    (h : ∀ w1, Hp w0 w1 (Rs.set i (.blk g (.cells (splice cur off cs).toArray t (0, 0)))) → Kc (a.put o.dst (goInt n)) w1) : if Region.wanted o (yielded ops a.tmps) = true then Oper.wp P o a W Kc Q else E := by
  subst hml hn hcs
  have hg := HP.blk i hi
  by_cases h0 : Nat.min l.length dLen = 0
  · have hnil : (l.take dLen).map (Value.int k) = [] := by
      have h0' : min l.length dLen = 0 := h0
      rw [List.map_eq_nil_iff, ← List.length_eq_zero_iff, List.length_take]; omega
    rw [hnil] at h
    have hrun := run_copy_none (P := P) W dT sT o.type elem (some ⟨g, off, none⟩) A dLen dCap l.length c hu hsz h0
    refine st_go hw ?_
    unfold Oper.wp
    have e1 : splice cur off [] = cur := by simp [splice]
    have h2 := h W (by rw [e1, set_self hi]; exact HP)
    have h3 : (execOp a.eval o).run P W = .ok (.value (goInt 0)) W := by simp [execOp, ho, resolve, invoke, builtin, hd, hs, hrun, Result.andThen]
    rw [h3]
    exact h2
  · have hpos : 0 < l.length := by
      rcases Nat.eq_zero_or_pos l.length with h | h
      · exfalso; apply h0; rw [h]; simp [Nat.min_def]
      · exact h
    obtain ⟨_, _, h3⟩ := hC
    obtain ⟨ad, rfl, h4⟩ := h3 hpos
    have hrun := run_copy_row (P := P) W dT sT o.type elem g off dLen dCap ad l.length c cur.toArray t ((l.take dLen).map (Value.int k)) hu hsz hg (by simp [Nat.min_comm]) (fun j v hv => by
      rw [List.getElem?_map, Option.map_eq_some_iff] at hv
      obtain ⟨x, hx, rfl⟩ := hv
      rw [List.getElem?_take] at hx
      split at hx
      · obtain ⟨c1, h5, h6, h7⟩ := h4 j x hx
        have h8 : c1 = [.int k x] := h6
        subst h8
        have h9 := h7 0 _ rfl
        have h2 : (Kd.int k).sz = 1 := rfl
        simpa [h2] using h9
      · cases hx) (by simpa using hfit) (fun v hv => by
      obtain ⟨x, _, rfl⟩ := List.mem_map.1 hv
      rfl)
    refine st_go hw ?_
    unfold Oper.wp
    have h3 : (execOp a.eval o).run P W = .ok (.value (goInt ((l.take dLen).map (Value.int k)).length)) (W.setRow g (cur.toArray.toList.take off ++ ((l.take dLen).map (Value.int k) ++ cur.toArray.toList.drop (off + ((l.take dLen).map (Value.int k)).length))).toArray) := by
      simp only [execOp, ho, resolve, invoke, builtin, List.map_toArray, List.map_cons, List.map_nil, hd, hs, Sem.run_bind, Sem.run_pure, Result.andThen_ok]
      rw [hrun]
      simp [Result.andThen, List.append_assoc]
    rw [h3]
    refine h _ (HP.setB i hi ⟨rfl, rfl, rfl, by rw [setRow_size]; exact Nat.le_refl _, fun q _ hq => setRow_other W g q _ fun e => hq (by rw [e])⟩ ?_)
    have := setRow_heap W g cur.toArray (cur.toArray.toList.take off ++ ((l.take dLen).map (Value.int k) ++ cur.toArray.toList.drop (off + ((l.take dLen).map (Value.int k)).length))).toArray t (0, 0) hg
    simpa [splice] using this
end
/-- a row that is nil -/
theorem Hp.nilrow {α : Type} {w0 w : World} {Rs : List Res} (h : Hp w0 w Rs) (d : Kd α) (e : Nat) (v : Value) {xs : List α} (hR : ∀ ok, d.R e w w0.heap.size ok v xs) : Hp w0 w (.row d e w0.heap.size v xs :: Rs) :=
  ⟨h.below, let ⟨G, hs⟩ := h.sp; ⟨_, .cons (R := .row d e w0.heap.size v xs) (F := fun _ => False) ⟨hR _, fun k hk => hk.elim⟩ (fun k hk => hk.elim) hs (fun k hk => hk.elim)⟩⟩
theorem Hp.rot1 {w0 w : World} {A B : Res} {Rs : List Res} (h : Hp w0 w (A :: B :: Rs)) : Hp w0 w (B :: A :: Rs) := by
  obtain ⟨hb, G, hs⟩ := h
  cases hs with
  | @cons _ _ F G1 h1 h2 h3 h4 =>
    cases h3 with
    | @cons _ _ F2 G2 k1 k2 k3 k4 => exact ⟨hb, _, .cons k1 k2 (.cons h1 h2 k3 fun k hk hg => h4 k hk (.inr hg)) (fun k hk hg => by
        rcases hg with hg | hg
        · exact h4 k hg (.inl hk)
        · exact k4 k hk hg)⟩
theorem Hp.rot2 {w0 w : World} {A B C : Res} {Rs : List Res} (h : Hp w0 w (A :: B :: C :: Rs)) : Hp w0 w (A :: C :: B :: Rs) := by
  obtain ⟨hb, G, hs⟩ := h
  cases hs with
  | @cons _ _ F G1 h1 h2 h3 h4 =>
    cases h3 with
    | @cons _ _ F2 G2 k1 k2 k3 k4 =>
      cases k3 with
      | @cons _ _ F3 G3 l1 l2 l3 l4 =>
        refine ⟨hb, _, .cons h1 h2 (.cons l1 l2 (.cons k1 k2 l3 fun k hk hg => k4 k hk (.inr hg)) fun k hk hg => ?_) fun k hk hg => ?_⟩
        · rcases hg with hg | hg
          · exact k4 k hg (.inl hk)
          · exact l4 k hk hg
        · rcases hg with hg | hg | hg
          · exact h4 k hk (.inr (.inl hg))
          · exact h4 k hk (.inl hg)
          · exact h4 k hk (.inr (.inr hg))
theorem Hp.closeE0 {α : Type} {w0 w : World} {Rs : List Res} {p : α → Prop} (f : α → List Res) (x : α) (hp : p x) (h : Hp w0 w (f x ++ Rs)) : Hp w0 w ((.ex fun x => .fact (p x) (.all (f x))) :: Rs) := by
  obtain ⟨hb, G, hs⟩ := h
  obtain ⟨G1, G2, h1, h2, h3, _, _⟩ := Sp.split (f x) hs
  exact ⟨hb, _, .cons (R := .ex fun x => .fact (p x) (.all (f x))) (F := G1) ⟨x, hp, G1, h1.raise fun k _ => Nat.zero_le k, fun k => Iff.rfl⟩ (fun k hk => (h1.lt k hk).1) h2 h3⟩
theorem held_named {P : Program} {ops : Array Oper} {Q : Exit → Act → World → Prop} {S : World → Prop} {id : Nat} {a : Act} {w : World} (hm : P.follows .mixedOrders = true) (h : ∀ wd : World, w.drew = wd → S wd ∧ (S wd → wpAnyH P .any ops Q S ops.size (Array.replicate ops.size false) a wd)) : (Code.region id ops true).wp P Q a w :=
  wp_region_held_drew hm (h _ rfl).1 (h _ rfl).2
theorem last_named {P : Program} {ops : Array Oper} {Q : Exit → Act → World → Prop} {S : World → Prop} {ds : List Nat} {id : Nat} {a : Act} {w : World} (hm : P.follows .mixedOrders = true) (h : ∀ wd : World, w.drew = wd → S wd ∧ (S wd → wpAnyLast P .any ops Q S ds ops.size (Array.replicate ops.size false) a wd)) : (Code.region id ops true).wp P Q a w :=
  wp_region_last_drew hm (h _ rfl).1 (h _ rfl).2
end Go.Proofs.YtejfocliopbocaaXs
