import Derived.Test.YtejfocliopbocaaQ00
import Derived.Laws.Rows
import Derived.Laws.Tables
import Derived.Deep.MidRow
import Derived.Lib.SliceRun
import Derived.StillTailTactics
import Derived.Lib.Overlaps
import Derived.Laws.Externs
import Derived.ChangeKeysEq
import Derived.Deep.WholeRow
import Derived.RowKit
import Derived.Deep.RegionHeld3
import Derived.Deep.DrawnRows
import Derived.Laws.CopyOwn
import Derived.Laws.BitsLemmas
import Derived.Deep.Slices
import Derived.ChangeArms
import Derived.ChangeSame
import Derived.Deep.Strs
import Derived.Lib.SmallJoins
import Derived.SizedLaws
namespace Go.Proofs.YtejfocliopbocaaXs
open Go.RowKit Go.Proofs.YtejfocliopbocaaW.PrintWords Go.Proofs.YtejfocliopbocaaW.PrintLast Go.Proofs.YtejfocliopbocaaW.PrintMore
set_option linter.unusedVariables false
/-- Something in memory, and its blocks. -/
structure Res where
  P : World → (Nat → Prop) → Prop
  move : ∀ {w w1 : World} {F : Nat → Prop}, P w F → (∀ k, F k → w1.heap[k]? = w.heap[k]?) → P w1 F
  lt : ∀ {w : World} {F : Nat → Prop}, P w F → ∀ k, F k → k < w.heap.size
/-- nothing -/
def Res.none : Res := ⟨fun _ F => ∀ k, ¬ F k, fun h _ => h, fun h k hk => absurd hk (h k)⟩
/-- a block -/
def Res.blk (g : Nat) (o : Obj) : Res :=
  ⟨fun w F => w.heap[g]? = some o ∧ ∀ k, F k ↔ k = g, fun h hm => ⟨(hm g ((h.2 g).2 rfl)).trans h.1, h.2⟩, fun h k hk => by rw [(h.2 k).1 hk]; exact blk_lt h.1⟩
/-- a row of the call's own -/
def Res.row {α : Type} (d : Kd α) (e base : Nat) (v : Value) (xs : List α) : Res :=
  ⟨fun w F => d.R e w base F v xs ∧ ∀ k, F k → k < w.heap.size, fun {w w1 F} h hm => ⟨Kd.R_move h.1 hm, fun k hk => by
      have := hm k hk
      have h2 := h.2 k hk
      rw [Array.getElem?_eq_getElem h2] at this
      exact (Array.getElem?_eq_some_iff.1 this).1⟩, fun h => h.2⟩
inductive Sp (b : Nat) (w : World) : List Res → (Nat → Prop) → Prop
  | nil : Sp b w [] (fun _ => False)
  | cons {R : Res} {Rs : List Res} {F G : Nat → Prop} : R.P w F → (∀ k, F k → b ≤ k) → Sp b w Rs G → (∀ k, F k → ¬ G k) → Sp b w (R :: Rs) (fun k => F k ∨ G k)
theorem Sp.lt {b : Nat} {w : World} {Rs : List Res} {G : Nat → Prop} (h : Sp b w Rs G) : ∀ k, G k → b ≤ k ∧ k < w.heap.size := by
  induction h with
  | nil => intro k hk; exact hk.elim
  | cons h1 h2 _ _ ih =>
    intro k hk
    rcases hk with hk | hk
    · exact ⟨h2 k hk, Res.lt _ h1 k hk⟩
    · exact ih k hk
theorem Sp.frame {b : Nat} {w w1 : World} {Rs : List Res} {G : Nat → Prop} (h : Sp b w Rs G) (hm : ∀ k, G k → w1.heap[k]? = w.heap[k]?) : Sp b w1 Rs G := by
  induction h with
  | nil => exact .nil
  | cons h1 h2 _ h4 ih => exact .cons (Res.move _ h1 fun k hk => hm k (.inl hk)) h2 (ih fun k hk => hm k (.inr hk)) h4
theorem Sp.get {b : Nat} {w : World} {Rs : List Res} {G : Nat → Prop} (h : Sp b w Rs G) : ∀ (i : Nat) {R : Res}, Rs[i]? = some R → ∃ F, R.P w F ∧ ∀ k, F k → G k := by
  induction h with
  | nil => intro i R hi; simp at hi
  | cons h1 h2 h3 h4 ih =>
    intro i R hi
    cases i with
    | zero => simp at hi; subst hi; exact ⟨_, h1, fun k hk => .inl hk⟩
    | succ i => obtain ⟨F, hR, hF⟩ := ih i (by simpa using hi); exact ⟨F, hR, fun k hk => .inr (hF k hk)⟩
theorem Sp.upd {b : Nat} {w : World} {Rs : List Res} {G : Nat → Prop} (h : Sp b w Rs G) : ∀ (i : Nat) {R : Res}, Rs[i]? = some R →
    ∃ F, R.P w F ∧ (∀ k, F k → G k) ∧ (∀ j {S : Res}, j ≠ i → Rs[j]? = some S → ∃ G', S.P w G' ∧ ∀ k, F k → ¬ G' k) ∧ ∀ (w1 : World) (R' : Res) (F' : Nat → Prop), R'.P w1 F' → (∀ k, F' k → F k ∨ w.heap.size ≤ k) → (∀ k, k < w.heap.size → ¬ F k → w1.heap[k]? = w.heap[k]?) → b ≤ w.heap.size →
      ∃ G', Sp b w1 (Rs.set i R') G' ∧ ∀ k, G' k → (G k ∧ (F' k ∨ ¬ F k)) ∨ F' k := by
  induction h with
  | nil => intro i R hi; simp at hi
  | @cons R0 Rs F0 G0 h1 h2 h3 h4 ih =>
    intro i R hi
    cases i with
    | zero =>
      simp at hi
      subst hi
      refine ⟨F0, h1, fun k hk => .inl hk, fun j S hj hS => ?_, fun w1 R' F' hR hF hm hb => ⟨_, .cons hR (fun k hk => ?_) (h3.frame fun k hk => hm k (h3.lt k hk).2 fun h => h4 k h hk) (fun k hk hg => ?_), fun k hk => ?_⟩⟩
      · obtain ⟨j, rfl⟩ : ∃ q, j = q + 1 := ⟨j - 1, by omega⟩
        obtain ⟨G', hG, hsub⟩ := h3.get j (by simpa using hS)
        exact ⟨G', hG, fun k hk hg => h4 k hk (hsub k hg)⟩
      · rcases hF k hk with h | h
        · exact h2 k h
        · omega
      · rcases hF k hk with h | h
        · exact h4 k h hg
        · have := (h3.lt k hg).2; omega
      · rcases hk with hk | hk
        · exact .inr hk
        · exact .inl ⟨.inr hk, .inr fun h => h4 k h hk⟩
    | succ i =>
      obtain ⟨F, hR0, hFG, hoth, hup⟩ := ih i (by simpa using hi)
      refine ⟨F, hR0, fun k hk => .inr (hFG k hk), fun j S hj hS => ?_, fun w1 R' F' hR hF hm hb => ?_⟩
      · cases j with
        | zero => simp at hS; subst hS; exact ⟨F0, h1, fun k hk hg => h4 k hg (hFG k hk)⟩
        | succ j => exact hoth j (by omega) (by simpa using hS)
      obtain ⟨G', hs, hG⟩ := hup w1 R' F' hR hF hm hb
      refine ⟨_, .cons (Res.move _ h1 fun k hk => hm k (Res.lt _ h1 k hk) fun h => h4 k hk (hFG k h)) h2 hs (fun k hk hg => ?_), fun k hk => ?_⟩
      · rcases hG k hg with h | h
        · exact h4 k hk h.1
        · rcases hF k h with h | h
          · exact h4 k hk (hFG k h)
          · have := Res.lt _ h1 k hk; omega
      · rcases hk with hk | hk
        · exact .inl ⟨.inl hk, .inr fun h => h4 k hk (hFG k h)⟩
        · rcases hG k hk with h | h
          · exact .inl ⟨.inr h.1, h.2⟩
          · exact .inr h
/-- What was there is as it was, and beside it lie these. -/
structure Hp (w0 w : World) (Rs : List Res) : Prop where
  below : Below w0.heap.size w0 w
  sp : ∃ G, Sp w0.heap.size w Rs G
theorem Hp.start (w : World) : Hp w w [] := ⟨Below.refl _ _, _, .nil⟩
theorem Hp.size {w0 w : World} {Rs : List Res} (h : Hp w0 w Rs) : w0.heap.size ≤ w.heap.size := h.below.size
theorem Hp.call {w0 w w1 : World} {Rs : List Res} (h : Hp w0 w Rs) (hb : Below w.heap.size w w1) : Hp w0 w1 Rs :=
  ⟨below_then h.below h.below.size hb, let ⟨G, hs⟩ := h.sp; ⟨G, hs.frame fun k hk => hb.block k (hs.lt k hk).2⟩⟩
theorem Hp.drewN {w0 w : World} {Rs : List Res} (h : Hp w0 w Rs) (n : Nat) : Hp w0 (w.drewN n) Rs := h.call (pw_below_drewN (Below.refl _ _) n)
theorem Hp.new {w0 w w1 : World} {Rs : List Res} (h : Hp w0 w Rs) (hb : Below w.heap.size w w1) {R : Res} {F : Nat → Prop} (hR : R.P w1 F) (hF : ∀ k, F k → w.heap.size ≤ k) : Hp w0 w1 (R :: Rs) :=
  ⟨below_then h.below h.below.size hb, let ⟨G, hs⟩ := h.sp; ⟨_, .cons hR (fun k hk => Nat.le_trans h.size (hF k hk)) (hs.frame fun k hk => hb.block k (hs.lt k hk).2) (fun k hk hg => by have := hF k hk; have := (hs.lt k hg).2; omega)⟩⟩
theorem Hp.alloc {w0 w : World} {Rs : List Res} (h : Hp w0 w Rs) (o : Obj) : Hp w0 (w.alloc o) (.blk w.heap.size o :: Rs) :=
  h.new (R := .blk w.heap.size o) (F := fun k => k = w.heap.size) (below_alloc (Below.refl _ _) o) ⟨blk_new w o, fun _ => Iff.rfl⟩ (fun k hk => by omega)
theorem Hp.newB {w0 w w1 : World} {Rs : List Res} (h : Hp w0 w Rs) (hb : Below w.heap.size w w1) {g : Nat} {o : Obj} (hg : w1.heap[g]? = some o) (hge : w.heap.size ≤ g) : Hp w0 w1 (.blk g o :: Rs) :=
  h.new (R := .blk g o) (F := fun k => k = g) hb ⟨hg, fun _ => Iff.rfl⟩ (fun k hk => by omega)
theorem Hp.newR {w0 w w1 : World} {Rs : List Res} (h : Hp w0 w Rs) (hb : Below w.heap.size w w1) {α : Type} {d : Kd α} {e : Nat} {ok : Nat → Prop} {v : Value} {xs : List α} (hR : d.R e w1 w.heap.size ok v xs) : Hp w0 w1 (.row d e w0.heap.size v xs :: Rs) :=
  h.new (R := .row d e w0.heap.size v xs) (F := _) hb ⟨Kd.R_lower (Kd.R_bound hR) h.size, fun k hk => hk.2.2.1⟩ (fun k hk => hk.2.1)
theorem Hp.get {w0 w : World} {Rs : List Res} (h : Hp w0 w Rs) (i : Nat) {R : Res} (hi : Rs[i]? = some R) : ∃ F, R.P w F ∧ ∀ k, F k → w0.heap.size ≤ k := by
  obtain ⟨G, hs⟩ := h.sp
  obtain ⟨F, h1, h2⟩ := hs.get i hi
  exact ⟨F, h1, fun k hk => (hs.lt k (h2 k hk)).1⟩
theorem Hp.blk {w0 w : World} {Rs : List Res} (h : Hp w0 w Rs) (i : Nat) {g : Nat} {o : Obj} (hi : Rs[i]? = some (.blk g o)) : w.heap[g]? = some o := let ⟨_, h1, _⟩ := h.get i hi; h1.1
theorem Hp.row {w0 w : World} {Rs : List Res} (h : Hp w0 w Rs) (i : Nat) {α : Type} {d : Kd α} {e base : Nat} {v : Value} {xs : List α} (hi : Rs[i]? = some (.row d e base v xs)) : d.R e w base (fun _ => True) v xs := let ⟨_, h1, _⟩ := h.get i hi; Kd.R_mono h1.1 fun _ _ => trivial
theorem Hp.upd {w0 w : World} {Rs : List Res} (h : Hp w0 w Rs) (i : Nat) {R : Res} (hi : Rs[i]? = some R) :
    ∃ F, R.P w F ∧ (∀ k, F k → w0.heap.size ≤ k) ∧ (∀ j {S : Res}, j ≠ i → Rs[j]? = some S → ∃ G', S.P w G' ∧ ∀ k, F k → ¬ G' k) ∧ ∀ (w1 : World) (R' : Res) (F' : Nat → Prop), Below w0.heap.size w0 w1 → R'.P w1 F' → (∀ k, F' k → F k ∨ w.heap.size ≤ k) → (∀ k, k < w.heap.size → ¬ F k → w1.heap[k]? = w.heap[k]?) → Hp w0 w1 (Rs.set i R') := by
  obtain ⟨G, hs⟩ := h.sp
  obtain ⟨F, h1, h2, ho, h3⟩ := hs.upd i hi
  refine ⟨F, h1, fun k hk => (hs.lt k (h2 k hk)).1, ho, fun w1 R' F' hb hR hF hm => ⟨hb, ?_⟩⟩
  obtain ⟨G', hs', _⟩ := h3 w1 R' F' hR hF hm h.size
  exact ⟨G', hs'⟩
/-- a block is written -/
theorem Hp.setB {w0 w w1 : World} {Rs : List Res} (h : Hp w0 w Rs) (i : Nat) {g : Nat} {o o' : Obj} (hi : Rs[i]? = some (.blk g o)) (hg : w.grownBy w1 (some g)) (hn : w1.heap[g]? = some o') : Hp w0 w1 (Rs.set i (.blk g o')) := by
  obtain ⟨F, h1, h2, _, h3⟩ := h.upd i hi
  refine h3 w1 (.blk g o') F (h.below.grown hg h.size fun k hk => by injection hk with hk; rw [← hk]; exact h2 g ((h1.2 g).2 rfl)) ⟨hn, h1.2⟩ (fun k hk => .inl hk) (fun k hk hf => hg.block k hk fun e => hf ?_)
  injection e with e
  exact (h1.2 k).2 e
theorem Hp.setCell {w0 w : World} {Rs : List Res} (h : Hp w0 w Rs) (i : Nat) {g : Nat} {cs : Array Value} {t : TypeId} (hi : Rs[i]? = some (.blk g (.cells cs t (0, 0)))) (j : Nat) (u : Value) : Hp w0 (w.setCell ⟨g, j, none⟩ u) (Rs.set i (.blk g (.cells (cs.setIfInBounds j u) t (0, 0)))) :=
  h.setB i hi ⟨rfl, rfl, rfl, by simp [World.setCell], fun k hk hne => Below.heap_setCell w ⟨g, j, none⟩ u k fun e => hne (by rw [e])⟩ (blk_set (h.blk i hi) j u)
/-- a row of the call's own is handed to what writes it, and comes back, perhaps elsewhere -/
theorem Hp.setR {w0 w : World} {Rs : List Res} (h : Hp w0 w Rs) (i : Nat) {α : Type} {d : Kd α} {e : Nat} {v : Value} {xs : List α} (hi : Rs[i]? = some (.row d e w0.heap.size v xs)) :
    ∃ F, d.R e w w0.heap.size F v xs ∧ (∀ j {g : Nat} {o : Obj}, j ≠ i → Rs[j]? = some (.blk g o) → ¬ F g) ∧ (∀ j {S : Res}, j ≠ i → Rs[j]? = some S → ∃ G', S.P w G' ∧ ∀ k, F k → ¬ G' k) ∧
      ∀ (w1 : World) {β : Type} {d2 : Kd β} {e2 : Nat} {ok : Nat → Prop} (v' : Value) (ys : List β), d2.R e2 w1 w0.heap.size ok v' ys → (∀ k, ok k → F k ∨ w.heap.size ≤ k) → Below w0.heap.size w0 w1 → Kept w w1 F → Hp w0 w1 (Rs.set i (.row d2 e2 w0.heap.size v' ys)) := by
  obtain ⟨F, h1, h2, h3, h4⟩ := h.upd i hi
  refine ⟨F, h1.1, fun j g o hj hg hF => ?_, h3, fun w1 β d2 e2 ok v' ys hR hok hb hk => h4 w1 (.row d2 e2 w0.heap.size v' ys) _ hb ⟨Kd.R_bound hR, fun k hk => hk.2.2.1⟩ (fun k hk => hok k hk.1) hk.2⟩
  obtain ⟨G', hG, hd⟩ := h3 j hj hg
  exact hd g hF ((hG.2 g).2 rfl)
/-- a row in a block that is known whole -/
theorem C_blk1 {α : Type} (d : Kd α) {w : World} {g : Nat} {x : α} {cs : List Value} {t : TypeId} {fr : Nat × Nat} (hg : w.heap[g]? = some (.cells cs.toArray t fr)) (hK : d.K w x cs) : d.C w (some ⟨g, 0, Option.none⟩) [x].length [x] := by
  refine ⟨rfl, by simp, fun _ => ⟨_, rfl, fun j p hj => ?_⟩⟩
  cases j with
  | zero =>
    simp at hj
    subst hj
    refine ⟨cs, d.K_len hK, hK, fun i u hu => ?_⟩
    rw [add_plain, cell_of_row w g _ cs.toArray t fr hg]
    simpa using hu
  | succ j => simp at hj
theorem rangeB {w : World} {g : Nat} {cs : List Value} {t : TypeId} {fr : Nat × Nat} (hg : w.heap[g]? = some (.cells cs.toArray t fr)) : w.rangeAt g 0 cs := fun j v hv => by
  rw [cell_of_row w g _ cs.toArray t fr hg]
  simpa using hv
/-- what is not asked any more -/
theorem Hp.drop1 {w0 w : World} {R : Res} {Rs : List Res} (h : Hp w0 w (R :: Rs)) : Hp w0 w Rs := by
  obtain ⟨hb, G, hs⟩ := h
  cases hs with
  | cons _ _ h3 _ => exact ⟨hb, _, h3⟩
section
set_option linter.unusedVariables false
variable {P : Program} {ops : Array Oper} {rest : List Oper} {o : Oper} {a : Act} {Q : Exit → Act → World → Prop} {W : World}
theorem wpList_on (hw : Region.wanted o (yielded ops a.tmps) = true) (h : ∀ K : Act → World → Prop, (∀ a w, wpList P ops Q rest a w → K a w) → o.wp P a W K Q) : wpList P ops Q (o :: rest) a W :=
  wpList_step fun K hK => by rw [if_pos hw]; exact h K hK
theorem ev_run (hw : Region.wanted o (yielded ops a.tmps) = true) {w1 : World} {v : Value} (hrun : (execOp a.eval o).run P W = .ok (.value v) w1) (h : wpList P ops Q rest (a.put o.dst v) w1) : wpList P ops Q (o :: rest) a W := by
  refine wpList_on hw fun K hK => ?_
  unfold Oper.wp
  rw [hrun]
  exact hK _ _ h
/-- a value is boxed -/
theorem ev_box (hw : Region.wanted o (yielded ops a.tmps) = true) (t : TypeId) (x : Operand) (ho : o.op = .box t x) (cs : Array Value) (hx : a.eval x = .agg cs)
    (h : ∀ g w1, W.heap.size ≤ g → w1.heap[g]? = some (.cells cs t (0, 0)) → Below W.heap.size W w1 → wpList P ops Q rest (a.put o.dst (.pointer (some ⟨g, 0, Option.none⟩))) w1) : wpList P ops Q (o :: rest) a W := by
  refine wpList_on hw fun K hK => ?_
  unfold Oper.wp execOp
  simp only [ho, hx, Instr.box, newVar, newRow, Value.cells, Sem.run_bind, Sem.run_pure, Result.andThen_ok, run_newObj]
  exact hK _ _ (h _ _ (Nat.le_refl _) (blk_new W _) (below_alloc (Below.refl _ _) _))
/-- a variable is made -/
theorem ev_alloc (hw : Region.wanted o (yielded ops a.tmps) = true) (t : TypeId) (ho : o.op = .alloc t) (z : Value) (hz : (P.info? t).map (·.zero) = some (some z))
    (h : ∀ g w1, W.heap.size ≤ g → w1.heap[g]? = some (.cells z.cells t (0, 0)) → Below W.heap.size W w1 → wpList P ops Q rest (a.put o.dst (.pointer (some ⟨g, 0, Option.none⟩))) w1) : wpList P ops Q (o :: rest) a W := by
  refine wpList_on hw fun K hK => ?_
  obtain ⟨i, hi, hzi⟩ := Option.map_eq_some_iff.1 hz
  have hzr : (zeroValue t).run P W = .ok z W := by simp [zeroValue, typeInfo, hi, hzi]
  unfold Oper.wp execOp
  simp only [ho, Instr.alloc, hzr, newVar, newRow, Sem.run_bind, Sem.run_pure, Result.andThen_ok, run_newObj]
  exact hK _ _ (h _ _ (Nat.le_refl _) (blk_new W _) (below_alloc (Below.refl _ _) _))
/-- a whole block is written -/
theorem ev_store (hw : Region.wanted o (yielded ops a.tmps) = true) (ty : TypeId) (x y : Operand) (ho : o.op = .store ty x y) (hdst : o.dst = Option.none) (g : Nat) (hx : a.eval x = .pointer (some ⟨g, 0, Option.none⟩)) {cells : Array Value} (hy : a.eval y = .agg cells) {t : TypeId} {old : Array Value} (hg : W.heap[g]? = some (.cells old t (0, 0)))
    (hi : (P.info? ty).map (·.size) = some cells.size) (hs : old.size = cells.size) (h1 : cells.all (·.oneCell') = true)
    (h : ∀ w1, w1.heap[g]? = some (.cells cells t (0, 0)) → W.grownBy w1 (some g) → wpList P ops Q rest a w1) : wpList P ops Q (o :: rest) a W := by
  refine wpList_on hw fun K hK => ?_
  refine wp_store_row ty x y ho g cells hx hy t old hg hi hs h1 (hK _ _ ?_)
  rw [hdst]
  exact h _ (setRow_heap W g old cells t (0, 0) hg) ⟨rfl, rfl, rfl, by rw [setRow_size]; exact Nat.le_refl _, fun k _ hk => setRow_other W g k cells fun e => hk (by rw [e])⟩
end
theorem fold_set : ∀ (cs : List Value) (k : Nat) (arr : Array Value), arr.size = k + cs.length → (cs.zipIdx k).foldl (fun a (x : Value × Nat) => a.setIfInBounds (0 + x.2) x.1) arr = (arr.toList.take k ++ cs).toArray := by
  intro cs
  induction cs with
  | nil =>
    intro k arr h
    have : arr.toList.take k = arr.toList := List.take_of_length_le (by simpa using Nat.le_of_eq h)
    simp [this]
  | cons c cs ih =>
    intro k arr h
    rw [List.zipIdx_cons, List.foldl_cons, ih (k + 1) _ (by simp at h ⊢; omega)]
    congr 1
    simp only [Nat.zero_add, Array.toList_setIfInBounds]
    rw [List.take_succ_eq_append_getElem (by simp at h ⊢; omega), List.take_set_of_le (Nat.le_refl _)]
    simp
theorem run_buildSlice1 {P : Program} {t e : TypeId} (hu : P.underlying t = some (.slice e)) {cs : List Value} {z : Value} (hi : (P.info? e).map (fun i => (i.zero, i.size)) = some (some z, cs.length)) (hpos : 0 < cs.length) (hmax : cs.length ≤ 16777216) (w : World) :
    (Instr.buildSlice t 1 #[(0, .agg cs.toArray)]).run P w = .ok (.slice (some ⟨w.heap.size, 0, Option.none⟩) 1 1) (w.alloc (.cells cs.toArray e)) := by
  obtain ⟨i, hi1, hi2⟩ := Option.map_eq_some_iff.1 hi
  simp only [Prod.mk.injEq] at hi2
  have hz : (zeroValue e).run P w = .ok z w := by simp [zeroValue, typeInfo, hi1, hi2.1]
  have hs : (sizeOf e).run P w = .ok cs.length w := by simp [sizeOf, typeInfo, hi1, hi2.2]
  have h1 : ¬ (16777216 < cs.length) := by omega
  have h2 : ¬ (cs = []) := by rintro rfl; simp at hpos
  have hfill : ∀ zc : Array Value, Instr.fill (fun i => some (i * cs.length, cs.length)) ((Array.range cs.length).map (zc[· % zc.size]!)) [(0, .agg cs.toArray)] = some cs.toArray := fun zc => by
    have := fold_set cs 0 ((Array.range cs.length).map (zc[· % zc.size]!)) (by simp)
    simpa [Instr.fill, Value.cells] using this
  unfold Instr.buildSlice
  simp [run_underlying hu, hs, h1, h2, hz, hfill, newRow, Result.andThen]
section
variable {P : Program} {ops : Array Oper} {rest : List Oper} {o : Oper} {a : Act} {Q : Exit → Act → World → Prop} {W w0 : World} {Rs : List Res} {α : Type} {d : Kd α}
/-- elements that lead nowhere -/
def Plain (d : Kd α) : Prop := ∀ (w : World) (base : Nat) (x : α) (cs : List Value), d.K w x cs → d.M w base (fun _ => False) x cs
theorem plain_int (k : IntKind) : Plain (Kd.int k) := fun _ _ _ _ h => h
theorem Hp.newRB {w0 w w1 : World} {Rs : List Res} (h : Hp w0 w Rs) (hb : Below w0.heap.size w0 w1) (hk : ∀ k, k < w.heap.size → w1.heap[k]? = w.heap[k]?) {e : Nat} {ok : Nat → Prop} {v : Value} {xs : List α} (hR : d.R e w1 w0.heap.size ok v xs) (hok : ∀ k, ok k → w.heap.size ≤ k) : Hp w0 w1 (.row d e w0.heap.size v xs :: Rs) :=
  ⟨hb, let ⟨G, hs⟩ := h.sp; ⟨_, .cons (R := .row d e w0.heap.size v xs) ⟨Kd.R_bound hR, fun k hk => hk.2.2.1⟩ (fun k hk => hk.2.1) (hs.frame fun k hk => hk' k (hs.lt k hk).2) (fun k hk hg => by have := hok k hk.1; have := (hs.lt k hg).2; omega)⟩⟩
where hk' := hk
theorem st_append {Kc : Act → World → Prop} (hp : Plain d) (HP : Hp w0 W Rs) (i : Nat) (hw : Region.wanted o (yielded ops a.tmps) = true) (s x : Operand) (t e : TypeId) (z : Value) (bytes : Nat)
    (ho : o.op = .call { callee := .builtin .append, args := #[s, x], argTypes := #[t, t] })
    (ht : P.underlying t = some (.slice e)) (hinfo : (P.info? e).map (fun i => (i.zero, i.size, i.bytes)) = some (some z, d.sz, bytes)) (hz : z.cells.size = d.sz) (hs0 : 0 < d.sz) (hb0 : 0 < bytes)
    (v : Value) (xs ys : List α) (A : Option Addr) (m c : Nat) (hs : a.eval s = v) (hx : a.eval x = .slice A m c)
    (hi : Rs[i]? = some (.row d e w0.heap.size v xs)) (HR : d.C W A m ys) (hl : (xs.length + m) * bytes ≤ 140737488355328)
    (h : ∀ v1 w1, Hp w0 w1 (Rs.set i (.row d e w0.heap.size v1 (xs ++ ys))) → Kc (a.put o.dst v1) w1) : if Region.wanted o (yielded ops a.tmps) = true then Oper.wp P o a W Kc Q else Kc (a.put o.dst undef) W := by
  obtain ⟨F, hR, _, _, hup⟩ := HP.setR i hi
  refine Kd.R_append_rows_step d (w0 := w0) w0.heap.size hw s x t e z bytes ho ht hinfo hz hs0 hb0 v xs ys A m c (fun k => F k ∨ W.heap.size ≤ k) (fun _ => False) hs hx (Kd.R_mono hR fun k hk => .inl hk) HR (fun x cs hK => hp W _ x cs hK) (fun _ hk => hk.elim) (fun k hk => .inr hk) HP.below HP.size hl ?_
  intro v1 w1 ho1 hb1 hg1 hat
  exact h v1 w1 (hup w1 v1 _ ho1 (fun k hk => hk) hb1 ⟨hg1.size, fun k hk hF => hg1.block k hk fun e => hF (hR.1 k e.symm)⟩)
theorem ev_append (hp : Plain d) (HP : Hp w0 W Rs) (i : Nat) (hw : Region.wanted o (yielded ops a.tmps) = true) (s x : Operand) (t e : TypeId) (z : Value) (bytes : Nat)
    (ho : o.op = .call { callee := .builtin .append, args := #[s, x], argTypes := #[t, t] })
    (ht : P.underlying t = some (.slice e)) (hinfo : (P.info? e).map (fun i => (i.zero, i.size, i.bytes)) = some (some z, d.sz, bytes)) (hz : z.cells.size = d.sz) (hs0 : 0 < d.sz) (hb0 : 0 < bytes)
    (v : Value) (xs ys : List α) (A : Option Addr) (m c : Nat) (hs : a.eval s = v) (hx : a.eval x = .slice A m c)
    (hi : Rs[i]? = some (.row d e w0.heap.size v xs)) (HR : d.C W A m ys) (hl : (xs.length + m) * bytes ≤ 140737488355328)
    (h : ∀ v1 w1, Hp w0 w1 (Rs.set i (.row d e w0.heap.size v1 (xs ++ ys))) → wpList P ops Q rest (a.put o.dst v1) w1) : wpList P ops Q (o :: rest) a W := by
  refine wpList_step fun K hK => ?_
  have := st_append (Kc := K) (Q := Q) (ops := ops) hp HP i hw s x t e z bytes ho ht hinfo hz hs0 hb0 v xs ys A m c hs hx hi HR hl (fun v1 w1 hp1 => hK _ _ (h v1 w1 hp1))
  exact this
/-- a slice literal -/
theorem Hp.lit (HP : Hp w0 W Rs) (e : TypeId) {xs : List α} {inner : List Value} (hrep : Reps (d.M W w0.heap.size (fun _ => False)) d.sz xs inner) (hm : xs.length ≤ 9223372036854775807) :
    Hp w0 (W.alloc (.cells inner.toArray e)) (.row d e w0.heap.size (.slice (some ⟨W.heap.size, 0, Option.none⟩) xs.length xs.length) xs :: Rs) := by
  have hw := World.ownsRow_lit (base := w0.heap.size) (e := e) (size := d.sz) W inner.toArray xs.length HP.size (by simpa [maxLen] using hm) (by simpa using hrep.1)
  refine HP.newRB (ok := fun k => W.heap.size ≤ k) (HP.below.alloc HP.size _) (fun k hk => Below.heap_alloc W _ k hk) ⟨fun k hk => ?_, inner, by simpa using hw, hrep.imp_ fun p c hp => ?_⟩ (fun k hk => hk)
  · have : W.heap.size = k := by simpa [Value.ownBlock] using hk
    omega
  · exact d.M_mono (fun k hk => hk.1.elim) (Kd.M_below (d.M_bound hp) (below_alloc (Below.refl _ _) _))
theorem reps_ints (k : IntKind) (w : World) (base : Nat) : ∀ l : List Int, Reps ((Kd.int k).M w base (fun _ => False)) (Kd.int k).sz l (l.map (Value.int k))
  | [] => Reps.none _ _
  | x :: l => Reps.one (show Kd.M (Kd.int k) _ _ _ x [.int k x] from rfl) (reps_ints k w base l)
end
end Go.Proofs.YtejfocliopbocaaXs
namespace Go.Proofs.Ytejfocliopbocaa.Xw
open Go.RowKit Go.Proofs.YtejfocliopbocaaW.PrintWords Go.Proofs.YtejfocliopbocaaW.PrintLast Go.Proofs.YtejfocliopbocaaW.PrintMore
set_option linter.unusedVariables false
set_option linter.unusedSimpArgs false
theorem add_block (a : Addr) (j : Nat) : (a.add j).block = a.block := by
  unfold Addr.add
  split <;> rfl
end Go.Proofs.Ytejfocliopbocaa.Xw

namespace Go.Proofs.YtejfocliopbocaaXe
open Go.RowKit Go.Proofs.YtejfocliopbocaaW.PrintWords
/-- for every count of rounds from some count on, f tells v -/
def Et {α : Type} (f : Nat → Option α) (v : α) : Prop := ∃ K, ∀ k, K ≤ k → f k = some v
theorem Et.out {α : Type} {f : Nat → Option α} {v : α} (h : Et f v) : ∃ k, f k = some v := by obtain ⟨K, h⟩ := h; exact ⟨K, h K (Nat.le_refl _)⟩
theorem Et.bind {α β : Type} {f : Nat → Option α} {g : Nat → α → Option β} {a : α} {b : β} (h : Et f a) (h' : Et (fun k => g k a) b) : Et (fun k => (f k).bind fun t => g k t) b := by
  obtain ⟨K, h⟩ := h
  obtain ⟨K', h'⟩ := h'
  refine ⟨max K K', fun k hk => ?_⟩
  have h1 := h k (by omega)
  have h2 := h' k (by omega)
  simp only [h1, Option.bind_some]
  exact h2
theorem Et.succ {α : Type} {f : Nat → Option α} {v : α} (h : Et (fun k => f (k + 1)) v) : Et f v := by
  obtain ⟨K, h⟩ := h
  refine ⟨K + 1, fun k hk => ?_⟩
  obtain ⟨j, rfl⟩ : ∃ j, k = j + 1 := ⟨k - 1, by omega⟩
  exact h j (by omega)
theorem Et.pos {α : Type} {c : Prop} [Decidable c] {f g : Nat → Option α} {v : α} (hc : c) (h : Et f v) : Et (fun k => if c then f k else g k) v := by
  simpa [hc] using h
theorem Et.neg {α : Type} {c : Prop} [Decidable c] {f g : Nat → Option α} {v : α} (hc : ¬ c) (h : Et g v) : Et (fun k => if c then f k else g k) v := by
  simpa [hc] using h
theorem Et.ite {α : Type} {c : Prop} [Decidable c] {f g : Nat → Option α} {v : α} (h : c → Et f v) (h' : ¬ c → Et g v) : Et (fun k => if c then f k else g k) v := by
  by_cases hc : c
  · exact Et.pos hc (h hc)
  · exact Et.neg hc (h' hc)
theorem Et.congr {α : Type} {f g : Nat → Option α} {v : α} (h : Et g v) (e : ∀ k, f k = g k) : Et f v := by
  have : f = g := funext e
  rwa [this]
theorem wr {x : Int} (h : -9223372036854775808 ≤ x ∧ x ≤ 9223372036854775807) : wrap64 x = x := by unfold wrap64; omega
end Go.Proofs.YtejfocliopbocaaXe
namespace Go.Proofs.YtejfocliopbocaaXs
open Go.RowKit Go.Proofs.YtejfocliopbocaaW.PrintWords Go.Proofs.YtejfocliopbocaaW.PrintLast Go.Proofs.YtejfocliopbocaaW.PrintMore
set_option linter.unusedVariables false
set_option linter.unusedSimpArgs false
theorem Sp.append {b : Nat} {w : World} {l Rs : List Res} {G1 G2 : Nat → Prop} (h1 : Sp b w l G1) (h2 : Sp b w Rs G2) (hd : ∀ k, G1 k → ¬ G2 k) : ∃ G, Sp b w (l ++ Rs) G ∧ ∀ k, G k → G1 k ∨ G2 k := by
  induction h1 with
  | nil => exact ⟨G2, h2, fun k hk => .inr hk⟩
  | @cons R Rs F G a1 a2 a3 a4 ih =>
    obtain ⟨G', g1, g2⟩ := ih fun k hk => hd k (.inr hk)
    refine ⟨_, .cons a1 a2 g1 fun k hk hg => ?_, fun k hk => ?_⟩
    · rcases g2 k hg with h | h
      · exact a4 k hk h
      · exact hd k (.inl hk) h
    · rcases hk with h | h
      · exact .inl (.inl h)
      · rcases g2 k h with h | h
        · exact .inl (.inr h)
        · exact .inr h
theorem Sp.split {b : Nat} {w : World} {Rs : List Res} : ∀ (l : List Res) {G : Nat → Prop}, Sp b w (l ++ Rs) G → ∃ G1 G2, Sp b w l G1 ∧ Sp b w Rs G2 ∧ (∀ k, G1 k → ¬ G2 k) ∧ (∀ k, G1 k → G k) ∧ ∀ k, G2 k → G k
  | [], G, h => ⟨fun _ => False, G, .nil, h, fun k hk => hk.elim, fun k hk => hk.elim, fun k hk => hk⟩
  | R :: l, G, h => by
    cases h with
    | cons a1 a2 a3 a4 =>
      obtain ⟨G1, G2, h1, h2, h3, h4, h5⟩ := Sp.split l a3
      refine ⟨_, G2, .cons a1 a2 h1 fun k hk hg => a4 k hk (h4 k hg), h2, fun k hk hg => ?_, fun k hk => ?_, fun k hk => .inr (h5 k hk)⟩
      · rcases hk with h | h
        · exact a4 k h (h5 k hg)
        · exact h3 k h hg
      · rcases hk with h | h
        · exact .inl h
        · exact .inr (h4 k h)
theorem Sp.raise {b b' : Nat} {w : World} {Rs : List Res} {G : Nat → Prop} (h : Sp b w Rs G) (hb : ∀ k, G k → b' ≤ k) : Sp b' w Rs G := by
  induction h with
  | nil => exact .nil
  | cons a1 a2 a3 a4 ih => exact .cons a1 (fun k hk => hb k (.inl hk)) (ih fun k hk => hb k (.inr hk)) a4
theorem Sp.insert {b : Nat} {w : World} {R : Res} {F : Nat → Prop} (hR : R.P w F) (hb : ∀ k, F k → b ≤ k) : ∀ (i : Nat) {Rs : List Res} {G : Nat → Prop}, Sp b w Rs G → Rs[i]? = some Res.none → (∀ k, F k → ¬ G k) → ∃ G', Sp b w (Rs.set i R) G' ∧ ∀ k, G' k → G k ∨ F k
  | i, [], G, h, hi, hd => by simp at hi
  | 0, R0 :: Rs, _, h, hi, hd => by
    simp at hi
    subst hi
    cases h with
    | cons a1 a2 a3 a4 =>
      refine ⟨_, .cons hR hb a3 fun k hk hg => hd k hk (.inr hg), fun k hk => ?_⟩
      rcases hk with h | h
      · exact .inr h
      · exact .inl (.inr h)
  | i + 1, R0 :: Rs, _, h, hi, hd => by
    cases h with
    | cons a1 a2 a3 a4 =>
      obtain ⟨G', h1, h2⟩ := Sp.insert hR hb i a3 (by simpa using hi) fun k hk hg => hd k hk (.inr hg)
      refine ⟨_, .cons a1 a2 h1 fun k hk hg => ?_, fun k hk => ?_⟩
      · rcases h2 k hg with h | h
        · exact a4 k hk h
        · exact hd k h (.inl hk)
      · rcases hk with h | h
        · exact .inl (.inl h)
        · rcases h2 k h with h | h
          · exact .inl (.inr h)
          · exact .inr h
/-- several as one -/
def Res.all (l : List Res) : Res :=
  ⟨fun w F => ∃ G, Sp 0 w l G ∧ ∀ k, F k ↔ G k, fun ⟨G, h, hG⟩ hm => ⟨G, h.frame fun k hk => hm k ((hG k).2 hk), hG⟩, fun ⟨G, h, hG⟩ k hk => (h.lt k ((hG k).1 hk)).2⟩
/-- one under an 'exists' -/
def Res.ex {α : Type} (f : α → Res) : Res :=
  ⟨fun w F => ∃ x, (f x).P w F, fun ⟨x, h⟩ hm => ⟨x, (f x).move h hm⟩, fun ⟨x, h⟩ k hk => (f x).lt h k hk⟩
/-- one with a fact -/
def Res.fact (p : Prop) (R : Res) : Res :=
  ⟨fun w F => p ∧ R.P w F, fun ⟨x, h⟩ hm => ⟨x, R.move h hm⟩, fun ⟨x, h⟩ k hk => R.lt h k hk⟩
section
variable {w0 w : World} {Rs : List Res} {l : List Res} {i : Nat}
theorem Hp.as (h : Hp w0 w Rs) (i : Nat) {R R' : Res} (hi : Rs[i]? = some R) (hr : ∀ F, R.P w F → R'.P w F) : Hp w0 w (Rs.set i R') := by
  obtain ⟨F, h1, _, _, h4⟩ := h.upd i hi
  exact h4 w R' F h.below (hr F h1) (fun k hk => .inl hk) fun k _ _ => rfl
theorem Hp.opn (h : Hp w0 w Rs) (i : Nat) (hi : Rs[i]? = some (.all l)) : Hp w0 w (l ++ Rs.set i .none) := by
  obtain ⟨G, hs⟩ := h.sp
  obtain ⟨F, ⟨G1, g1, g2⟩, hF, _, h4⟩ := hs.upd i hi
  obtain ⟨G', s1, s2⟩ := h4 w .none (fun _ => False) (fun k hk => hk) (fun k hk => hk.elim) (fun k _ _ => rfl) h.size
  obtain ⟨G2, t1, _⟩ := Sp.append (g1.raise (b' := w0.heap.size) fun k hk => (hs.lt k (hF k ((g2 k).2 hk))).1) s1 fun k hk hg => by
    rcases s2 k hg with h | h
    · rcases h.2 with h' | h'
      · exact h'
      · exact h' ((g2 k).2 hk)
    · exact h
  exact ⟨h.below, G2, t1⟩
theorem Hp.cls (l : List Res) (h : Hp w0 w (l ++ Rs)) (i : Nat) (hi : Rs[i]? = some .none) : Hp w0 w (Rs.set i (.all l)) := by
  obtain ⟨G, hs⟩ := h.sp
  obtain ⟨G1, G2, h1, h2, h3, h4, h5⟩ := Sp.split l hs
  obtain ⟨G', t1, _⟩ := Sp.insert (R := .all l) (F := G1) ⟨G1, h1.raise fun k _ => Nat.zero_le k, fun k => Iff.rfl⟩ (fun k hk => (h1.lt k hk).1) i h2 hi h3
  exact ⟨h.below, G', t1⟩
theorem Hp.unex {α : Type} {f : α → Res} (h : Hp w0 w Rs) (i : Nat) (hi : Rs[i]? = some (.ex f)) : ∃ x, Hp w0 w (Rs.set i (f x)) := by
  obtain ⟨F, ⟨x, h1⟩, _, _, h4⟩ := h.upd i hi
  exact ⟨x, h4 w (f x) F h.below h1 (fun k hk => .inl hk) fun k _ _ => rfl⟩
theorem Hp.unfact {p : Prop} {R : Res} (h : Hp w0 w Rs) (i : Nat) (hi : Rs[i]? = some (.fact p R)) : p ∧ Hp w0 w (Rs.set i R) := by
  obtain ⟨F, ⟨x, h1⟩, _, _, h4⟩ := h.upd i hi
  exact ⟨x, h4 w R F h.below h1 (fun k hk => .inl hk) fun k _ _ => rfl⟩
theorem Hp.toex {α : Type} (f : α → Res) (x : α) (h : Hp w0 w Rs) (i : Nat) (hi : Rs[i]? = some (f x)) : Hp w0 w (Rs.set i (.ex f)) := h.as i hi fun F hF => ⟨x, hF⟩
theorem Hp.tofact {p : Prop} {R : Res} (hp : p) (h : Hp w0 w Rs) (i : Nat) (hi : Rs[i]? = some R) : Hp w0 w (Rs.set i (.fact p R)) := h.as i hi fun F hF => ⟨hp, hF⟩
theorem Hp.dropN : ∀ (l : List Res), Hp w0 w (l ++ Rs) → Hp w0 w Rs
  | [], h => h
  | R :: l, h => Hp.dropN l h.drop1
theorem set_get {α : Type} {l : List α} {i : Nat} (x : α) (h : i < l.length) : (l.set i x)[i]? = some x := by simp [h]
/-- opened: under 'exists', a fact, several -/
theorem Hp.openE {α : Type} {p : α → Prop} {f : α → List Res} (h : Hp w0 w Rs) (i : Nat) (hi : Rs[i]? = some (.ex fun x => .fact (p x) (.all (f x)))) : ∃ x, p x ∧ Hp w0 w (f x ++ Rs.set i .none) := by
  have hl : i < Rs.length := (List.getElem?_eq_some_iff.1 hi).1
  obtain ⟨x, h1⟩ := h.unex i hi
  obtain ⟨h2, h3⟩ := h1.unfact i (set_get _ hl)
  have h4 := h3.opn i (set_get _ (by simpa using hl))
  simp only [List.set_set] at h4
  exact ⟨x, h2, h4⟩
theorem Hp.closeE {α : Type} {p : α → Prop} (f : α → List Res) (x : α) (hp : p x) (i : Nat) (hl : i < Rs.length) (h : Hp w0 w (f x ++ Rs.set i .none)) : Hp w0 w (Rs.set i (.ex fun x => .fact (p x) (.all (f x)))) := by
  have h1 := Hp.cls (f x) h i (set_get _ hl)
  have h2 := h1.tofact hp i (set_get _ (by simpa using hl))
  have h3 := h2.toex (fun x => .fact (p x) (.all (f x))) x i (set_get _ (by simpa using hl))
  simpa only [List.set_set] using h3
/-- read without the resource i -/
def Rd {α : Type} (d : Kd α) (w0 : World) (Rs : List Res) (i : Nat) (A : Option Addr) (n : Nat) (xs : List α) : Prop := ∀ (w : World) (X : Res), Hp w0 w (Rs.set i X) → d.C w A n xs
theorem Rd.below {α : Type} {d : Kd α} {A : Option Addr} {n : Nat} {xs : List α} (h : d.C w0 A n xs) : Rd d w0 Rs i A n xs := fun _ _ hp => Kd.C_below h hp.below
theorem Rd.row {α : Type} {d : Kd α} {A : Option Addr} {n c e base : Nat} {xs : List α} (j : Nat) (hj : i ≠ j) (h : Rs[j]? = some (.row d e base (.slice A n c) xs)) : Rd d w0 Rs i A n xs := fun w X hp => by
  have h1 := hp.row j (d := d) (e := e) (base := base) (v := .slice A n c) (xs := xs) (by rw [List.getElem?_set_ne hj]; exact h)
  have h2 := Kd.R_reads' h1
  rw [h2.1]
  exact h2.2.2
end
theorem fold_at : ∀ (cs : List Value) (k off : Nat) (arr : Array Value), off + k + cs.length ≤ arr.size → (cs.zipIdx k).foldl (fun a (x : Value × Nat) => a.setIfInBounds (off + x.2) x.1) arr = (arr.toList.take (off + k) ++ cs ++ arr.toList.drop (off + k + cs.length)).toArray := by
  intro cs
  induction cs with
  | nil =>
    intro k off arr h
    simp
  | cons c cs ih =>
    intro k off arr h
    rw [List.zipIdx_cons, List.foldl_cons, ih (k + 1) off _ (by simp at h ⊢; omega)]
    congr 1
    simp only [Array.toList_setIfInBounds, List.length_cons] at h ⊢
    rw [show off + (k + 1) = (off + k) + 1 by omega, List.take_succ_eq_append_getElem (by simp; omega), List.take_set_of_le (Nat.le_refl _)]
    rw [show off + k + 1 + cs.length = off + k + (cs.length + 1) by omega, List.drop_set_of_lt (by omega)]
    simp
theorem fill_two (z : Array Value) (k : IntKind) (x : Int) (cs : List Value) (hz : z.size = 1 + cs.length) : Instr.fill ((#[(0, 1), (1, cs.length)] : Array (Nat × Nat))[·]?) z [(0, .int k x), (1, .agg cs.toArray)] = some (.int k x :: cs).toArray := by
  have h1 : ¬ (z.size = 0) := by omega
  have h2 : ¬ (z.size < 1 + cs.length) := by omega
  have hf := fold_at cs 0 1 (z.setIfInBounds 0 (.int k x)) (by simp; omega)
  have h3 : (z.toList.set 0 (.int k x)).take 1 = [.int k x] := by
    cases hl : z.toList with
    | nil =>
      have := congrArg List.length hl
      rw [Array.length_toList] at this
      exact absurd this (by simpa using h1)
    | cons a l => simp
  have h4 : (z.toList.set 0 (.int k x)).drop (1 + cs.length) = [] := List.drop_eq_nil_of_le (by simp; omega)
  simp [Instr.fill, Value.cells, h1, h2, hf, h3, h4]
theorem built_of {P : Program} {t : TypeId} {fields : Array Field} {z : Value} {places : List (Nat × Nat)} {parts : List (Nat × Value)} {cells : Array Value} (hz : (P.info? t).map (·.zero) = some (some z)) (hu : P.underlying t = some (.struct fields)) (hp : fields.toList.mapM (fun f => (P.info? f.type).map fun i => (f.offset, i.size)) = some places) (hf : Instr.fill (places.toArray[·]?) z.cells parts = some cells) : P.built t parts = some cells := by
  obtain ⟨it, h1, h2⟩ := Option.map_eq_some_iff.1 hz
  unfold Program.built
  simp only [h1, hu, h2, hp, hf]
theorem run_op_build {P : Program} {o : Oper} {a : Act} {w : World} (t : TypeId) (parts : Array (Nat × Operand)) (ho : o.op = .build t parts) (vals : List (Nat × Value)) (hv : parts.toList.map (fun (x : Nat × Operand) => (x.1, a.eval x.2)) = vals) {cells : Array Value} (hb : P.built t vals = some cells) : (execOp a.eval o).run P w = .ok (.value (.agg cells)) w := by
  have hv2 : (parts.map fun x => match x with | (i, x) => (i, a.eval x)) = vals.toArray := by
    apply Array.ext'
    rw [Array.toList_map]
    exact hv
  have h := run_build (P := P) w t vals.toArray cells hb
  unfold execOp
  simp only [ho]
  rw [hv2]
  simp [Sem.run_bind, h, Result.andThen]
theorem range_C {k : IntKind} {w : World} {b o n : Nat} {l : List Int} (h : (Kd.int k).C w (some ⟨b, o, none⟩) n l) : w.rangeAt b o (l.map (Value.int k)) := fun j u hu => by
  rw [List.getElem?_map, Option.map_eq_some_iff] at hu
  obtain ⟨x, hx, rfl⟩ := hu
  have hl : j < l.length := (List.getElem?_eq_some_iff.1 hx).1
  obtain ⟨h1, _, h3⟩ := h
  obtain ⟨ad, had, h4⟩ := h3 (by omega)
  cases had
  obtain ⟨c1, _, h6, h7⟩ := h4 j x hx
  have h8 : c1 = [.int k x] := h6
  subst h8
  have h9 := h7 0 _ rfl
  have h2 : (Kd.int k).sz = 1 := rfl
  simpa [h2, add_at] using h9
section
variable {P : Program} {ops : Array Oper} {rest : List Oper} {o : Oper} {a : Act} {Q : Exit → Act → World → Prop} {W : World}
/-- a value of one cell is boxed -/
theorem ev_boxv (hw : Region.wanted o (yielded ops a.tmps) = true) (t : TypeId) (x : Operand) (ho : o.op = .box t x) (v : Value) (hx : a.eval x = v) (hv : v.cells = #[v])
    (h : ∀ g w1, W.heap.size ≤ g → w1.heap[g]? = some (.cells #[v] t (0, 0)) → Below W.heap.size W w1 → wpList P ops Q rest (a.put o.dst (.pointer (some ⟨g, 0, Option.none⟩))) w1) : wpList P ops Q (o :: rest) a W := by
  refine wpList_on hw fun K hK => ?_
  unfold Oper.wp execOp
  simp only [ho, hx, Instr.box, newVar, newRow, hv, Sem.run_bind, Sem.run_pure, Result.andThen_ok, run_newObj]
  exact hK _ _ (h _ _ (Nat.le_refl _) (blk_new W _) (below_alloc (Below.refl _ _) _))
theorem st_run {Kc : Act → World → Prop} (hw : Region.wanted o (yielded ops a.tmps) = true) {w1 : World} {v : Value} (hrun : (execOp a.eval o).run P W = .ok (.value v) w1) (h : Kc (a.put o.dst v) w1) : if Region.wanted o (yielded ops a.tmps) = true then Oper.wp P o a W Kc Q else Kc (a.put o.dst undef) W := by
  rw [if_pos hw]
  unfold Oper.wp
  rw [hrun]
  exact h
end
theorem C_addrK {α : Type} {d : Kd α} (hsz : 0 < d.sz) {w : World} {A : Option Addr} {n : Nat} {l : List α} (h : d.C w A n l) (hn : 0 < n) : ∃ b o, A = some ⟨b, o, none⟩ := by
  obtain ⟨h1, _, h3⟩ := h
  obtain ⟨ad, had, h4⟩ := h3 hn
  have hpos : 0 < l.length := by omega
  obtain ⟨c1, h5, h6, h7⟩ := h4 0 (l[0]'hpos) (List.getElem?_eq_getElem hpos)
  cases c1 with
  | nil => simp at h5; omega
  | cons u c1 =>
    have h9 := h7 0 u rfl
    rcases ad with ⟨b, o, _ | q⟩
    · exact ⟨b, o, had⟩
    · exfalso
      simp [World.cell?, Addr.add] at h9
      split at h9 <;> simp at h9
theorem range_K {α : Type} {d : Kd α} {w : World} {b o n : Nat} {l : List α} (h : d.C w (some ⟨b, o, none⟩) n l) {j : Nat} {x : α} (hj : l[j]? = some x) : ∃ cs, d.K w x cs ∧ w.rangeAt b (o + j * d.sz) cs := by
  have hl : j < l.length := (List.getElem?_eq_some_iff.1 hj).1
  obtain ⟨h1, _, h3⟩ := h
  obtain ⟨ad, had, h4⟩ := h3 (by omega)
  cases had
  obtain ⟨c1, h5, h6, h7⟩ := h4 j x hj
  refine ⟨c1, h6, fun i u hu => ?_⟩
  have h9 := h7 i u hu
  rw [add_at] at h9
  rwa [show o + j * d.sz + i = o + (j * d.sz + i) by omega]
theorem i64k {x y : Int} (h : x = y) (hb : -9223372036854775808 ≤ y ∧ y ≤ 9223372036854775807) : IntKind.i64.wrap x = y := by subst h; rw [i64_w]; unfold wrap64; omega
section
variable {w : World} {g : Nat} {l : List Int} {t : TypeId} {k : IntKind}
theorem cellL (hg : w.heap[g]? = some (.cells (l.map (Value.int k)).toArray t (0, 0))) (j : Int) (h0 : 0 ≤ j) (h1 : j < l.length) : w.cell? ⟨g, j.toNat, none⟩ = some (.int k (rd l j)) := by
  have hl : j.toNat < l.length := by omega
  rw [cell_of_row w g _ _ t (0, 0) hg]
  simp [rd, hl]
theorem frozC {cs : Array Value} (hg : w.heap[g]? = some (.cells cs t (0, 0))) (i : Nat) : w.frozen? ⟨g, i, none⟩ = false := by simp [World.frozen?, hg]
theorem setL (l : List Int) (i : Nat) (x : Int) : (l.map (Value.int k)).toArray.setIfInBounds i (.int k x) = ((l.set i x).map (Value.int k)).toArray := by simp [List.map_set]
end
theorem C_ints {w : World} {k : IntKind} {ad : Addr} {l : List Int} (hl : l.length ≤ 9223372036854775807) (h : ∀ j x, l[j]? = some x → w.cell? (ad.add j) = some (.int k x)) : Kd.C (Kd.int k) w (some ad) l.length l := by
  refine ⟨rfl, by simpa using hl, fun _ => ⟨_, rfl, fun j p hj => ?_⟩⟩
  refine ⟨[.int k p], rfl, rfl, fun i u hu => ?_⟩
  cases i with
  | zero =>
    simp at hu
    subst hu
    have h1 := h j p hj
    have h2 : (Kd.int k).sz = 1 := rfl
    simpa [h2] using h1
  | succ i => simp at hu
section
variable {P : Program} {T e : TypeId} {N : Nat}
theorem run_cut_all (hT : P.underlying T = some (.array N e)) (hs : (P.info? e).map (·.size) = some 1) (hN : 0 < N) (g o : Nat) (w : World) :
    (Instr.sliceAt T (.pointer (some ⟨g, o, none⟩)) none none none).run P w = .ok (.slice (some ⟨g, o, none⟩) N N) w := by
  obtain ⟨i, hi, hsi⟩ := Option.map_eq_some_iff.1 hs
  have h2 : ¬ (N = 0) := by omega
  simp [Instr.sliceAt, Instr.sureAddr, run_underlying hT, Instr.sliceBounds, Instr.sliceBound, asIntOf, h2, sizeOf, typeInfo, hi, hsi, add_at]
theorem run_cut_to (hT : P.underlying T = some (.array N e)) (hs : (P.info? e).map (·.size) = some 1) (hN : 0 < N) (g o : Nat) (r : Int) (h0 : 0 ≤ r) (h1 : r ≤ N) (w : World) :
    (Instr.sliceAt T (.pointer (some ⟨g, o, none⟩)) none (some (.int .i64 r)) none).run P w = .ok (.slice (some ⟨g, o, none⟩) r.toNat N) w := by
  obtain ⟨i, hi, hsi⟩ := Option.map_eq_some_iff.1 hs
  have h2 : ¬ (N = 0) := by omega
  have h4 : ¬ ((N : Int) < r) := by omega
  simp [Instr.sliceAt, Instr.sureAddr, run_underlying hT, Instr.sliceBounds, Instr.sliceBound, asIntOf, h0, h1, h2, h4, sizeOf, typeInfo, hi, hsi, add_at]
end
section
variable {P : Program} {ops : Array Oper} {rest : List Oper} {o : Oper} {a : Act} {Q : Exit → Act → World → Prop} {W w0 : World} {Rs : List Res}
theorem set_self {α : Type} {l : List α} {i : Nat} {x : α} (h : l[i]? = some x) : l.set i x = l := by
  apply List.ext_getElem?
  intro j
  have hi : i < l.length := (List.getElem?_eq_some_iff.1 h).1
  rw [List.getElem?_set]
  split
  · subst_vars
    first | exact h.symm | (rw [if_pos hi, h])
  · rfl
/-- copy into a block -/
theorem ev_copy (HP : Hp w0 W Rs) (i : Nat) {g off : Nat} {cur : List Value} {t : TypeId} (hi : Rs[i]? = some (.blk g (.cells cur.toArray t (0, 0)))) (hgd : o.guard = none) (d s : Operand) (dT sT : TypeId)
    (ho : o.op = .call { callee := .builtin .copy, args := #[d, s], argTypes := #[dT, sT] }) (elem : TypeId) (hu : P.underlying dT = some (.slice elem)) (hsz : (P.info? elem).map (·.size) = some 1)
    (dLen dCap : Nat) (hd : a.eval d = .slice (some ⟨g, off, none⟩) dLen dCap) {A : Option Addr} {m c : Nat} (hs : a.eval s = .slice A m c) {k : IntKind} {l : List Int} (hml : l.length = m) (hC : Kd.C (Kd.int k) W A m l) {cs : List Value} (hcs : cs = (l.take dLen).map (Value.int k)) (hfit : off + cs.length ≤ cur.length) {n : Nat} (hn : cs.length = n)
    (h : ∀ w1, Hp w0 w1 (Rs.set i (.blk g (.cells (splice cur off cs).toArray t (0, 0)))) → wpList P ops Q rest (a.put o.dst (goInt n)) w1) : wpList P ops Q (o :: rest) a W := by
  subst hml hn hcs
  have hg := HP.blk i hi
  by_cases h0 : min l.length dLen = 0
  · have hnil : (l.take dLen).map (Value.int k) = [] := by
      rw [List.map_eq_nil_iff, ← List.length_eq_zero_iff, List.length_take]; omega
    rw [hnil] at h
    refine wpList_copy_nothing hgd d s dT sT ho elem hu hsz (some ⟨g, off, none⟩) A dLen dCap l.length c hd hs h0 ?_
    refine h W ?_
    have e1 : splice cur off [] = cur := by simp [splice]
    rw [e1, set_self hi]
    exact HP
  · have hpos : 0 < l.length := by omega
    obtain ⟨_, _, h3⟩ := hC
    obtain ⟨ad, rfl, h4⟩ := h3 hpos
    refine wpList_copy_own hgd d s dT sT ho elem hu hsz g off dLen dCap ad l.length c hd hs cur.toArray t hg ((l.take dLen).map (Value.int k)) (by simp [Nat.min_comm]) (fun j v hv => ?_) (by simpa using hfit) (fun v hv => ?_) ?_
    · rw [List.getElem?_map, Option.map_eq_some_iff] at hv
      obtain ⟨x, hx, rfl⟩ := hv
      rw [List.getElem?_take] at hx
      split at hx
      · obtain ⟨c1, h5, h6, h7⟩ := h4 j x hx
        have h8 : c1 = [.int k x] := h6
        subst h8
        have h9 := h7 0 _ rfl
        have h2 : (Kd.int k).sz = 1 := rfl
        simpa [h2] using h9
      · cases hx
    · obtain ⟨x, _, rfl⟩ := List.mem_map.1 hv
      rfl
    · refine h _ (HP.setB i hi ⟨rfl, rfl, rfl, by rw [setRow_size]; exact Nat.le_refl _, fun q _ hq => setRow_other W g q _ fun e => hq (by rw [e])⟩ ?_)
      have := setRow_heap W g cur.toArray (cur.toArray.toList.take off ++ ((l.take dLen).map (Value.int k) ++ cur.toArray.toList.drop (off + ((l.take dLen).map (Value.int k)).length))).toArray t (0, 0) hg
      simpa [splice] using this
end
theorem C_addr {k : IntKind} {w : World} {A : Option Addr} {n : Nat} {l : List Int} (h : (Kd.int k).C w A n l) (hn : 0 < n) (hl : l.length = n) : ∃ b o, A = some ⟨b, o, none⟩ := by
  obtain ⟨h1, _, h3⟩ := h
  obtain ⟨ad, had, h4⟩ := h3 hn
  have hpos : 0 < l.length := by omega
  obtain ⟨c1, h5, h6, h7⟩ := h4 0 (l[0]'hpos) (List.getElem?_eq_getElem hpos)
  have h8 : c1 = [.int k (l[0]'hpos)] := h6
  subst h8
  have h9 := h7 0 _ rfl
  rcases ad with ⟨b, o, _ | q⟩
  · exact ⟨b, o, had⟩
  · exfalso
    simp [World.cell?, Addr.add] at h9
    split at h9 <;> simp at h9
theorem enters_fn {P : Program} {f : FuncId} {fn : Func} {c : Code} (hf : P.funcs[f]? = some fn) (hname : (fn.name == "runtime.NumGoroutine") = false) (hb : fn.body = some c) (args : Array Value) (w : World) : (callFunc f args).run P w = .ok (.enter f args) w := by
  have h1 : fn.name ≠ "runtime.NumGoroutine" := by simpa using hname
  simp [callFunc, hf, h1, hb]
theorem Hp.rot3 {w0 w : World} {R A B C : Res} {Rs : List Res} (h : Hp w0 w (R :: A :: B :: C :: Rs)) : Hp w0 w ([A, B, C] ++ (R :: Rs)) := by
  obtain ⟨hb, G, hs⟩ := h
  cases hs with
  | @cons _ _ F G1 h1 h2 h3 h4 =>
    obtain ⟨G2, G3, k1, k2, k3, k4, k5⟩ := Sp.split [A, B, C] h3
    obtain ⟨G', s1, _⟩ := Sp.append k1 (.cons h1 h2 k2 fun k hk hg => h4 k hk (k5 k hg)) (fun k hk hg => by
      rcases hg with hg | hg
      · exact h4 k hg (k4 k hk)
      · exact k3 k hk hg)
    exact ⟨hb, G', s1⟩
section
variable {P : Program} {ops : Array Oper} {o : Oper} {a : Act} {Q : Exit → Act → World → Prop} {W w0 : World} {Rs : List Res} {Kc : Act → World → Prop} {E : Prop}
theorem st_go (hw : Region.wanted o (yielded ops a.tmps) = true) (h : Oper.wp P o a W Kc Q) : if Region.wanted o (yielded ops a.tmps) = true then Oper.wp P o a W Kc Q else E := by rw [if_pos hw]; exact h
theorem st_alloc (hw : Region.wanted o (yielded ops a.tmps) = true) (t : TypeId) (ho : o.op = .alloc t) (z : Value) (hz : (P.info? t).map (·.zero) = some (some z))
    (h : ∀ g w1, W.heap.size ≤ g → w1.heap[g]? = some (.cells z.cells t (0, 0)) → Below W.heap.size W w1 → Kc (a.put o.dst (.pointer (some ⟨g, 0, Option.none⟩))) w1) : if Region.wanted o (yielded ops a.tmps) = true then Oper.wp P o a W Kc Q else E := by
  refine st_go hw ?_
  obtain ⟨i, hi, hzi⟩ := Option.map_eq_some_iff.1 hz
  have hzr : (zeroValue t).run P W = .ok z W := by simp [zeroValue, typeInfo, hi, hzi]
  unfold Oper.wp execOp
  simp only [ho, Instr.alloc, hzr, newVar, newRow, Sem.run_bind, Sem.run_pure, Result.andThen_ok, run_newObj]
  exact h _ _ (Nat.le_refl _) (blk_new W _) (below_alloc (Below.refl _ _) _)
theorem st_store (hw : Region.wanted o (yielded ops a.tmps) = true) (ty : TypeId) (x y : Operand) (ho : o.op = .store ty x y) (hdst : o.dst = Option.none) (g : Nat) (hx : a.eval x = .pointer (some ⟨g, 0, Option.none⟩)) {cells : Array Value} (hy : a.eval y = .agg cells) {t : TypeId} {old : Array Value} (hg : W.heap[g]? = some (.cells old t (0, 0)))
    (hi : (P.info? ty).map (·.size) = some cells.size) (hs : old.size = cells.size) (h1 : cells.all (·.oneCell') = true)
    (h : ∀ w1, w1.heap[g]? = some (.cells cells t (0, 0)) → W.grownBy w1 (some g) → Kc a w1) : if Region.wanted o (yielded ops a.tmps) = true then Oper.wp P o a W Kc Q else E := by
  refine st_go hw ?_
  refine wp_store_row ty x y ho g cells hx hy t old hg hi hs h1 ?_
  rw [hdst]
  exact h _ (setRow_heap W g old cells t (0, 0) hg) ⟨rfl, rfl, rfl, by rw [setRow_size]; exact Nat.le_refl _, fun k _ hk => setRow_other W g k cells fun e => hk (by rw [e])⟩
theorem st_copy (HP : Hp w0 W Rs) (i : Nat) {g off : Nat} {cur : List Value} {t : TypeId} (hi : Rs[i]? = some (.blk g (.cells cur.toArray t (0, 0)))) (hw : Region.wanted o (yielded ops a.tmps) = true) (d s : Operand) (dT sT : TypeId)
    (ho : o.op = .call { callee := .builtin .copy, args := #[d, s], argTypes := #[dT, sT] }) (elem : TypeId) (hu : P.underlying dT = some (.slice elem)) (hsz : (P.info? elem).map (·.size) = some 1)
    (dLen dCap : Nat) (hd : a.eval d = .slice (some ⟨g, off, none⟩) dLen dCap) {A : Option Addr} {m c : Nat} (hs : a.eval s = .slice A m c) {k : IntKind} {l : List Int} (hml : l.length = m) (hC : Kd.C (Kd.int k) W A m l) {cs : List Value} (hcs : cs = (l.take dLen).map (Value.int k)) (hfit : off + cs.length ≤ cur.length) {n : Nat} (hn : cs.length = n)
    (h : ∀ w1, Hp w0 w1 (Rs.set i (.blk g (.cells (splice cur off cs).toArray t (0, 0)))) → Kc (a.put o.dst (goInt n)) w1) : if Region.wanted o (yielded ops a.tmps) = true then Oper.wp P o a W Kc Q else E := by
  subst hml hn hcs
  have hg := HP.blk i hi
  by_cases h0 : Nat.min l.length dLen = 0
  · have hnil : (l.take dLen).map (Value.int k) = [] := by
      have h0' : min l.length dLen = 0 := h0
      rw [List.map_eq_nil_iff, ← List.length_eq_zero_iff, List.length_take]; omega
    rw [hnil] at h
    have hrun := run_copy_none (P := P) W dT sT o.type elem (some ⟨g, off, none⟩) A dLen dCap l.length c hu hsz h0
    refine st_go hw ?_
    unfold Oper.wp
    have e1 : splice cur off [] = cur := by simp [splice]
    have h2 := h W (by rw [e1, set_self hi]; exact HP)
    have h3 : (execOp a.eval o).run P W = .ok (.value (goInt 0)) W := by simp [execOp, ho, resolve, invoke, builtin, hd, hs, hrun, Result.andThen]
    rw [h3]
    exact h2
  · have hpos : 0 < l.length := by
      rcases Nat.eq_zero_or_pos l.length with h | h
      · exfalso; apply h0; rw [h]; simp [Nat.min_def]
      · exact h
    obtain ⟨_, _, h3⟩ := hC
    obtain ⟨ad, rfl, h4⟩ := h3 hpos
    have hrun := run_copy_row (P := P) W dT sT o.type elem g off dLen dCap ad l.length c cur.toArray t ((l.take dLen).map (Value.int k)) hu hsz hg (by simp [Nat.min_comm]) (fun j v hv => by
      rw [List.getElem?_map, Option.map_eq_some_iff] at hv
      obtain ⟨x, hx, rfl⟩ := hv
      rw [List.getElem?_take] at hx
      split at hx
      · obtain ⟨c1, h5, h6, h7⟩ := h4 j x hx
        have h8 : c1 = [.int k x] := h6
        subst h8
        have h9 := h7 0 _ rfl
        have h2 : (Kd.int k).sz = 1 := rfl
        simpa [h2] using h9
      · cases hx) (by simpa using hfit) (fun v hv => by
      obtain ⟨x, _, rfl⟩ := List.mem_map.1 hv
      rfl)
    refine st_go hw ?_
    unfold Oper.wp
    have h3 : (execOp a.eval o).run P W = .ok (.value (goInt ((l.take dLen).map (Value.int k)).length)) (W.setRow g (cur.toArray.toList.take off ++ ((l.take dLen).map (Value.int k) ++ cur.toArray.toList.drop (off + ((l.take dLen).map (Value.int k)).length))).toArray) := by
      simp only [execOp, ho, resolve, invoke, builtin, List.map_toArray, List.map_cons, List.map_nil, hd, hs, Sem.run_bind, Sem.run_pure, Result.andThen_ok]
      rw [hrun]
      simp [Result.andThen, List.append_assoc]
    rw [h3]
    refine h _ (HP.setB i hi ⟨rfl, rfl, rfl, by rw [setRow_size]; exact Nat.le_refl _, fun q _ hq => setRow_other W g q _ fun e => hq (by rw [e])⟩ ?_)
    have := setRow_heap W g cur.toArray (cur.toArray.toList.take off ++ ((l.take dLen).map (Value.int k) ++ cur.toArray.toList.drop (off + ((l.take dLen).map (Value.int k)).length))).toArray t (0, 0) hg
    simpa [splice] using this
end
/-- a row that is nil -/
theorem Hp.nilrow {α : Type} {w0 w : World} {Rs : List Res} (h : Hp w0 w Rs) (d : Kd α) (e : Nat) (v : Value) {xs : List α} (hR : ∀ ok, d.R e w w0.heap.size ok v xs) : Hp w0 w (.row d e w0.heap.size v xs :: Rs) :=
  ⟨h.below, let ⟨G, hs⟩ := h.sp; ⟨_, .cons (R := .row d e w0.heap.size v xs) (F := fun _ => False) ⟨hR _, fun k hk => hk.elim⟩ (fun k hk => hk.elim) hs (fun k hk => hk.elim)⟩⟩
theorem Hp.rot1 {w0 w : World} {A B : Res} {Rs : List Res} (h : Hp w0 w (A :: B :: Rs)) : Hp w0 w (B :: A :: Rs) := by
  obtain ⟨hb, G, hs⟩ := h
  cases hs with
  | @cons _ _ F G1 h1 h2 h3 h4 =>
    cases h3 with
    | @cons _ _ F2 G2 k1 k2 k3 k4 => exact ⟨hb, _, .cons k1 k2 (.cons h1 h2 k3 fun k hk hg => h4 k hk (.inr hg)) (fun k hk hg => by
        rcases hg with hg | hg
        · exact h4 k hg (.inl hk)
        · exact k4 k hk hg)⟩
theorem Hp.rot2 {w0 w : World} {A B C : Res} {Rs : List Res} (h : Hp w0 w (A :: B :: C :: Rs)) : Hp w0 w (A :: C :: B :: Rs) := by
  obtain ⟨hb, G, hs⟩ := h
  cases hs with
  | @cons _ _ F G1 h1 h2 h3 h4 =>
    cases h3 with
    | @cons _ _ F2 G2 k1 k2 k3 k4 =>
      cases k3 with
      | @cons _ _ F3 G3 l1 l2 l3 l4 =>
        refine ⟨hb, _, .cons h1 h2 (.cons l1 l2 (.cons k1 k2 l3 fun k hk hg => k4 k hk (.inr hg)) fun k hk hg => ?_) fun k hk hg => ?_⟩
        · rcases hg with hg | hg
          · exact k4 k hg (.inl hk)
          · exact l4 k hk hg
        · rcases hg with hg | hg | hg
          · exact h4 k hk (.inr (.inl hg))
          · exact h4 k hk (.inl hg)
          · exact h4 k hk (.inr (.inr hg))
theorem Hp.closeE0 {α : Type} {w0 w : World} {Rs : List Res} {p : α → Prop} (f : α → List Res) (x : α) (hp : p x) (h : Hp w0 w (f x ++ Rs)) : Hp w0 w ((.ex fun x => .fact (p x) (.all (f x))) :: Rs) := by
  obtain ⟨hb, G, hs⟩ := h
  obtain ⟨G1, G2, h1, h2, h3, _, _⟩ := Sp.split (f x) hs
  exact ⟨hb, _, .cons (R := .ex fun x => .fact (p x) (.all (f x))) (F := G1) ⟨x, hp, G1, h1.raise fun k _ => Nat.zero_le k, fun k => Iff.rfl⟩ (fun k hk => (h1.lt k hk).1) h2 h3⟩
theorem held_named {P : Program} {ops : Array Oper} {Q : Exit → Act → World → Prop} {S : World → Prop} {id : Nat} {a : Act} {w : World} (hm : P.follows .mixedOrders = true) (h : ∀ wd : World, w.drew = wd → S wd ∧ (S wd → wpAnyH P .any ops Q S ops.size (Array.replicate ops.size false) a wd)) : (Code.region id ops true).wp P Q a w :=
  wp_region_held_drew hm (h _ rfl).1 (h _ rfl).2
theorem last_named {P : Program} {ops : Array Oper} {Q : Exit → Act → World → Prop} {S : World → Prop} {ds : List Nat} {id : Nat} {a : Act} {w : World} (hm : P.follows .mixedOrders = true) (h : ∀ wd : World, w.drew = wd → S wd ∧ (S wd → wpAnyLast P .any ops Q S ds ops.size (Array.replicate ops.size false) a wd)) : (Code.region id ops true).wp P Q a w :=
  wp_region_last_drew hm (h _ rfl).1 (h _ rfl).2
end Go.Proofs.YtejfocliopbocaaXs
namespace Go.Proofs.YtejfocliopbocaaXr
open Go.ChangeShapes Go.WideShapes Go.Proofs.YtejfocliopbocaaW.PrintWords
variable {H : Type} {enc : TypeId × Value → H} {P : Program} {w : World} {base : Nat} {spare : Nat → Bool} {held : Bool}
theorem list_of {α : Type} (Q : Nat → α → Prop) (n : Nat) (h : ∀ i, i < n → ∃ a, Q i a) : ∃ l : List α, l.length = n ∧ ∀ i a, l[i]? = some a → Q i a := by
  induction n with
  | zero => exact ⟨[], rfl, fun i a hi => by simp at hi⟩
  | succ n ih =>
    obtain ⟨l, hl, hq⟩ := ih fun i hi => h i (by omega)
    obtain ⟨a, ha⟩ := h n (by omega)
    refine ⟨l ++ [a], by simp [hl], fun i b hi => ?_⟩
    by_cases hin : i < n
    · rw [List.getElem?_append_left (by omega)] at hi
      exact hq i b hi
    · have : i < (l ++ [a]).length := (List.getElem?_eq_some_iff.mp hi).1
      simp at this
      have e : i = n := by omega
      subst e
      rw [List.getElem?_append_right (by omega)] at hi
      simp [hl] at hi
      subst hi
      exact ha
/-- A slice of elements of the kind K, each with what its own reading tells (wf). -/
theorem open_row {α : Type} (K : Kd α) (wf : α → Prop) {t e : TypeId} {A : Option Addr} {len cap : Nat} {d : DataW H} {ps : List MemPlace}
    (E : ∀ n cs y, DataW.trod enc P w base spare held n e cs = some y → ∃ a, K.K w a cs ∧ wf a)
    (hu : P.underlying t = some (.slice e)) (hs : P.cellsOf e = K.sz)
    (h : DataW.Trod enc P w base spare held t (.slice A len cap) d ps) :
    ∃ l : List α, Kd.C K w A l.length l ∧ l.length = len ∧ len ≤ cap ∧ cap ≤ maxLen ∧ ∀ x ∈ l, wf x := by
  obtain ⟨fuel, hf⟩ := h
  rcases DataW.trod_slice hu hf with ⟨hcs, _⟩ | ⟨a, len', cap', elems, rest, n, _, hcs, _, _, hl, hm, hlen, hel, _, _⟩
  · simp [Value.cells] at hcs
    obtain ⟨rfl, rfl, rfl⟩ := hcs
    exact ⟨[], ⟨rfl, by simp, fun h => absurd h (by simp)⟩, rfl, Nat.le_refl _, Nat.zero_le _, fun x hx => by simp at hx⟩
  · simp [Value.cells] at hcs
    obtain ⟨rfl, rfl, rfl⟩ := hcs
    have each : ∀ i, i < len → ∃ x : α, (∃ cs, w.cells? base (a.add (i * P.cellsOf e)) (P.cellsOf e) = some cs ∧ K.K w x cs) ∧ wf x := by
      intro i hi
      have h1 := hel i hi
      rw [List.getElem?_eq_getElem (by omega)] at h1
      obtain ⟨cs, h2, h3⟩ := Option.bind_eq_some_iff.1 h1
      obtain ⟨x, h4, h5⟩ := E n cs _ h3
      exact ⟨x, ⟨cs, h2, h4⟩, h5⟩
    obtain ⟨l, hl1, hq⟩ := list_of _ _ each
    refine ⟨l, ⟨rfl, ?_, fun _ => ⟨a, rfl, fun j p hj => ?_⟩⟩, hl1, hl, hm, fun x hx => ?_⟩
    · rw [hl1]
      have : (maxLen : Nat) ≤ 9223372036854775807 := by decide
      omega
    · obtain ⟨⟨cs, h2, h4⟩, _⟩ := hq j p hj
      obtain ⟨_, h6, h7⟩ := World.cells?_some h2
      have h8 := K.K_len h4
      refine ⟨cs, h8, h4, fun i u hi => ?_⟩
      have h9 : i < cs.length := (List.getElem?_eq_some_iff.mp hi).1
      have h10 := h7 i (by rw [← h6]; exact h9)
      rw [hi] at h10
      rw [← hs, ← h10, Addr.add_add]
    · obtain ⟨i, hi, rfl⟩ := List.mem_iff_getElem.mp hx
      exact (hq i _ (List.getElem?_eq_getElem hi)).2
/-- Such a slice is no longer than its weight allows. -/
theorem sized_row {t e : TypeId} {a : Option Addr} {len cap : Nat} {d : DataW H} {ps : List MemPlace} {ts : List TypeId} {ds : List (DataW H)} {j : Nat}
    (hsz : (DataW.weightsEach P ts ds).all (· ≤ reachBytes) = true) (ht : ts[j]? = some t) (hd : ds[j]? = some d) (hu : P.underlying t = some (.slice e)) {B : Nat} (hB : P.bytesOf e = B)
    (h : DataW.Trod enc P w base spare held t (.slice a len cap) d ps) : len * B ≤ 140737488351232 := by
  obtain ⟨fuel, hf⟩ := h
  rcases DataW.trod_slice hu hf with ⟨hcs, _⟩ | ⟨a, len', cap', elems, rest, n, _, hcs, hx, _, hl, hm, hlen, hel, _, _⟩
  · simp [Value.cells] at hcs
    obtain ⟨rfl, rfl, rfl⟩ := hcs
    simp
  · simp [Value.cells] at hcs
    obtain ⟨rfl, rfl, rfl⟩ := hcs
    obtain ⟨hx, _⟩ := Prod.mk.inj hx
    subst hx
    have z := sized_slice hsz ht hd hu
    rw [hB] at z
    simp only [List.length_map] at z
    exact Nat.le_trans (Nat.mul_le_mul_right _ (by omega)) z
theorem el_int {K : IntKind} {t : TypeId} (hu : P.underlying t = some (.int K)) {n : Nat} {cs : List Value} {y : DataW H × List MemPlace} (h : DataW.trod enc P w base spare held n t cs = some y) : ∃ a, cs = [.int K a] ∧ (Lit.int K a).wf = true := by
  obtain ⟨a, h1, _, h2⟩ := DataW.trod_int hu h
  exact ⟨a, h1, h2⟩
theorem el_bool {t : TypeId} (hu : P.underlying t = some .bool) {n : Nat} {cs : List Value} {y : DataW H × List MemPlace} (h : DataW.trod enc P w base spare held n t cs = some y) : ∃ a, cs = [.bool a] := by
  obtain ⟨a, h1, _⟩ := DataW.trod_bool hu h
  exact ⟨a, h1⟩
/-- The cells of a record whose field i is one cell long, field by field. -/
theorem fields_one {t : TypeId} {fs : Array Field} {n : Nat} {cs : List Value} {y : DataW H × List MemPlace} (hu : P.underlying t = some (.struct fs)) (h : DataW.trod enc P w base spare held n t cs = some y) :
    cs.length = P.cellsOf t ∧ ∀ (i : Nat) (f : Field), fs[i]? = some f → ∃ m z, DataW.trod enc P w base spare held m f.type ((cs.drop f.offset).take (P.cellsOf f.type)) = some z := by
  obtain ⟨xs, m, _, _, hl, hlen, hf⟩ := DataW.trod_struct hu h
  refine ⟨hl, fun i f hi => ?_⟩
  have hi' : i < fs.size := by
    rcases Nat.lt_or_ge i fs.size with h0 | h0
    · exact h0
    · rw [Array.getElem?_eq_none h0] at hi; cases hi
  refine ⟨m, xs[i]'(by omega), ?_⟩
  have := hf i f hi
  rw [this]
  simp
/-- An element that is itself a slice. -/
theorem el_slice {α : Type} (K : Kd α) (wf : α → Prop) {t e : TypeId} (E : ∀ n cs y, DataW.trod enc P w base spare held n e cs = some y → ∃ a, K.K w a cs ∧ wf a)
    (hu : P.underlying t = some (.slice e)) (hs : P.cellsOf e = K.sz) {n : Nat} {cs : List Value} {y : DataW H × List MemPlace} (h : DataW.trod enc P w base spare held n t cs = some y) : ∃ l : List α, (Kd.slice e K).K w l cs ∧ ∀ x ∈ l, wf x := by
  obtain ⟨A, len, cap, rfl⟩ : ∃ A len cap, cs = [.slice A len cap] := by
    rcases DataW.trod_slice hu h with ⟨hcs, _⟩ | ⟨a, len', cap', elems, rest, n, _, hcs, _⟩
    · exact ⟨_, _, _, hcs⟩
    · exact ⟨_, _, _, hcs⟩
  obtain ⟨l, h1, rfl, h3, _, h5⟩ := open_row K wf (A := A) (len := len) (cap := cap) (d := y.1) (ps := y.2) E hu hs ⟨n, h⟩
  exact ⟨l, ⟨A, cap, rfl, h3, h1⟩, h5⟩
end Go.Proofs.YtejfocliopbocaaXr
