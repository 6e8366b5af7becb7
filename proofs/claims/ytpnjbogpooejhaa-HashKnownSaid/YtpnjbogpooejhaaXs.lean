import Derived.Test.YtpnjbogpooejhaaWMore
import Derived.Test.YtpnjbogpooejhaaWRepsOne
import Derived.Laws.Rows
import Derived.Laws.Tables
import Derived.Deep.MidRow
/-! What a call has laid, as one list of resources that do not touch one another; and operations on whole blocks: for walks by hand. -/
namespace Go.Proofs.YtpnjbogpooejhaaXs
open Go.RowKit Go.Proofs.YtpnjbogpooejhaaW.PrintWords Go.Proofs.YtpnjbogpooejhaaW.PrintLast Go.Proofs.YtpnjbogpooejhaaW.PrintMore
set_option linter.unusedVariables false

/-- Something in memory, and its blocks. -/
structure Res where
  P : World → (Nat → Prop) → Prop
  move : ∀ {w w1 : World} {F : Nat → Prop}, P w F → (∀ k, F k → w1.heap[k]? = w.heap[k]?) → P w1 F
  lt : ∀ {w : World} {F : Nat → Prop}, P w F → ∀ k, F k → k < w.heap.size
/-- nothing -/
def Res.none : Res := ⟨fun _ F => ∀ k, ¬ F k, fun h _ => h, fun h k hk => absurd hk (h k)⟩
/-- a block -/
def Res.blk (g : Nat) (o : Obj) : Res :=
  ⟨fun w F => w.heap[g]? = some o ∧ ∀ k, F k ↔ k = g, fun h hm => ⟨(hm g ((h.2 g).2 rfl)).trans h.1, h.2⟩, fun h k hk => by rw [(h.2 k).1 hk]; exact blk_lt h.1⟩
/-- a row of the call's own -/
def Res.row {α : Type} (d : Kd α) (e base : Nat) (v : Value) (xs : List α) : Res :=
  ⟨fun w F => d.R e w base F v xs ∧ ∀ k, F k → k < w.heap.size, fun {w w1 F} h hm => ⟨Kd.R_move h.1 hm, fun k hk => by
      have := hm k hk
      have h2 := h.2 k hk
      rw [Array.getElem?_eq_getElem h2] at this
      exact (Array.getElem?_eq_some_iff.1 this).1⟩, fun h => h.2⟩

inductive Sp (b : Nat) (w : World) : List Res → (Nat → Prop) → Prop
  | nil : Sp b w [] (fun _ => False)
  | cons {R : Res} {Rs : List Res} {F G : Nat → Prop} : R.P w F → (∀ k, F k → b ≤ k) → Sp b w Rs G → (∀ k, F k → ¬ G k) → Sp b w (R :: Rs) (fun k => F k ∨ G k)

theorem Sp.lt {b : Nat} {w : World} {Rs : List Res} {G : Nat → Prop} (h : Sp b w Rs G) : ∀ k, G k → b ≤ k ∧ k < w.heap.size := by
  induction h with
  | nil => intro k hk; exact hk.elim
  | cons h1 h2 _ _ ih =>
    intro k hk
    rcases hk with hk | hk
    · exact ⟨h2 k hk, Res.lt _ h1 k hk⟩
    · exact ih k hk
theorem Sp.frame {b : Nat} {w w1 : World} {Rs : List Res} {G : Nat → Prop} (h : Sp b w Rs G) (hm : ∀ k, G k → w1.heap[k]? = w.heap[k]?) : Sp b w1 Rs G := by
  induction h with
  | nil => exact .nil
  | cons h1 h2 _ h4 ih => exact .cons (Res.move _ h1 fun k hk => hm k (.inl hk)) h2 (ih fun k hk => hm k (.inr hk)) h4
theorem Sp.get {b : Nat} {w : World} {Rs : List Res} {G : Nat → Prop} (h : Sp b w Rs G) : ∀ (i : Nat) {R : Res}, Rs[i]? = some R → ∃ F, R.P w F ∧ ∀ k, F k → G k := by
  induction h with
  | nil => intro i R hi; simp at hi
  | cons h1 h2 h3 h4 ih =>
    intro i R hi
    cases i with
    | zero => simp at hi; subst hi; exact ⟨_, h1, fun k hk => .inl hk⟩
    | succ i => obtain ⟨F, hR, hF⟩ := ih i (by simpa using hi); exact ⟨F, hR, fun k hk => .inr (hF k hk)⟩
theorem Sp.upd {b : Nat} {w : World} {Rs : List Res} {G : Nat → Prop} (h : Sp b w Rs G) : ∀ (i : Nat) {R : Res}, Rs[i]? = some R →
    ∃ F, R.P w F ∧ (∀ k, F k → G k) ∧ (∀ j {S : Res}, j ≠ i → Rs[j]? = some S → ∃ G', S.P w G' ∧ ∀ k, F k → ¬ G' k) ∧ ∀ (w1 : World) (R' : Res) (F' : Nat → Prop), R'.P w1 F' → (∀ k, F' k → F k ∨ w.heap.size ≤ k) → (∀ k, k < w.heap.size → ¬ F k → w1.heap[k]? = w.heap[k]?) → b ≤ w.heap.size →
      ∃ G', Sp b w1 (Rs.set i R') G' ∧ ∀ k, G' k → (G k ∧ (F' k ∨ ¬ F k)) ∨ F' k := by
  induction h with
  | nil => intro i R hi; simp at hi
  | @cons R0 Rs F0 G0 h1 h2 h3 h4 ih =>
    intro i R hi
    cases i with
    | zero =>
      simp at hi
      subst hi
      refine ⟨F0, h1, fun k hk => .inl hk, fun j S hj hS => ?_, fun w1 R' F' hR hF hm hb => ⟨_, .cons hR (fun k hk => ?_) (h3.frame fun k hk => hm k (h3.lt k hk).2 fun h => h4 k h hk) (fun k hk hg => ?_), fun k hk => ?_⟩⟩
      · obtain ⟨j, rfl⟩ : ∃ q, j = q + 1 := ⟨j - 1, by omega⟩
        obtain ⟨G', hG, hsub⟩ := h3.get j (by simpa using hS)
        exact ⟨G', hG, fun k hk hg => h4 k hk (hsub k hg)⟩
      · rcases hF k hk with h | h
        · exact h2 k h
        · omega
      · rcases hF k hk with h | h
        · exact h4 k h hg
        · have := (h3.lt k hg).2; omega
      · rcases hk with hk | hk
        · exact .inr hk
        · exact .inl ⟨.inr hk, .inr fun h => h4 k h hk⟩
    | succ i =>
      obtain ⟨F, hR0, hFG, hoth, hup⟩ := ih i (by simpa using hi)
      refine ⟨F, hR0, fun k hk => .inr (hFG k hk), fun j S hj hS => ?_, fun w1 R' F' hR hF hm hb => ?_⟩
      · cases j with
        | zero => simp at hS; subst hS; exact ⟨F0, h1, fun k hk hg => h4 k hg (hFG k hk)⟩
        | succ j => exact hoth j (by omega) (by simpa using hS)
      obtain ⟨G', hs, hG⟩ := hup w1 R' F' hR hF hm hb
      refine ⟨_, .cons (Res.move _ h1 fun k hk => hm k (Res.lt _ h1 k hk) fun h => h4 k hk (hFG k h)) h2 hs (fun k hk hg => ?_), fun k hk => ?_⟩
      · rcases hG k hg with h | h
        · exact h4 k hk h.1
        · rcases hF k h with h | h
          · exact h4 k hk (hFG k h)
          · have := Res.lt _ h1 k hk; omega
      · rcases hk with hk | hk
        · exact .inl ⟨.inl hk, .inr fun h => h4 k hk (hFG k h)⟩
        · rcases hG k hk with h | h
          · exact .inl ⟨.inr h.1, h.2⟩
          · exact .inr h

/-- What was there is as it was, and beside it lie these. -/
structure Hp (w0 w : World) (Rs : List Res) : Prop where
  below : Below w0.heap.size w0 w
  sp : ∃ G, Sp w0.heap.size w Rs G
theorem Hp.start (w : World) : Hp w w [] := ⟨Below.refl _ _, _, .nil⟩
theorem Hp.size {w0 w : World} {Rs : List Res} (h : Hp w0 w Rs) : w0.heap.size ≤ w.heap.size := h.below.size
theorem Hp.call {w0 w w1 : World} {Rs : List Res} (h : Hp w0 w Rs) (hb : Below w.heap.size w w1) : Hp w0 w1 Rs :=
  ⟨below_then h.below h.below.size hb, let ⟨G, hs⟩ := h.sp; ⟨G, hs.frame fun k hk => hb.block k (hs.lt k hk).2⟩⟩
theorem Hp.drewN {w0 w : World} {Rs : List Res} (h : Hp w0 w Rs) (n : Nat) : Hp w0 (w.drewN n) Rs := h.call (pw_below_drewN (Below.refl _ _) n)
theorem Hp.new {w0 w w1 : World} {Rs : List Res} (h : Hp w0 w Rs) (hb : Below w.heap.size w w1) {R : Res} {F : Nat → Prop} (hR : R.P w1 F) (hF : ∀ k, F k → w.heap.size ≤ k) : Hp w0 w1 (R :: Rs) :=
  ⟨below_then h.below h.below.size hb, let ⟨G, hs⟩ := h.sp; ⟨_, .cons hR (fun k hk => Nat.le_trans h.size (hF k hk)) (hs.frame fun k hk => hb.block k (hs.lt k hk).2) (fun k hk hg => by have := hF k hk; have := (hs.lt k hg).2; omega)⟩⟩
theorem Hp.alloc {w0 w : World} {Rs : List Res} (h : Hp w0 w Rs) (o : Obj) : Hp w0 (w.alloc o) (.blk w.heap.size o :: Rs) :=
  h.new (R := .blk w.heap.size o) (F := fun k => k = w.heap.size) (below_alloc (Below.refl _ _) o) ⟨blk_new w o, fun _ => Iff.rfl⟩ (fun k hk => by omega)
theorem Hp.newB {w0 w w1 : World} {Rs : List Res} (h : Hp w0 w Rs) (hb : Below w.heap.size w w1) {g : Nat} {o : Obj} (hg : w1.heap[g]? = some o) (hge : w.heap.size ≤ g) : Hp w0 w1 (.blk g o :: Rs) :=
  h.new (R := .blk g o) (F := fun k => k = g) hb ⟨hg, fun _ => Iff.rfl⟩ (fun k hk => by omega)
theorem Hp.newR {w0 w w1 : World} {Rs : List Res} (h : Hp w0 w Rs) (hb : Below w.heap.size w w1) {α : Type} {d : Kd α} {e : Nat} {ok : Nat → Prop} {v : Value} {xs : List α} (hR : d.R e w1 w.heap.size ok v xs) : Hp w0 w1 (.row d e w0.heap.size v xs :: Rs) :=
  h.new (R := .row d e w0.heap.size v xs) (F := _) hb ⟨Kd.R_lower (Kd.R_bound hR) h.size, fun k hk => hk.2.2.1⟩ (fun k hk => hk.2.1)
theorem Hp.get {w0 w : World} {Rs : List Res} (h : Hp w0 w Rs) (i : Nat) {R : Res} (hi : Rs[i]? = some R) : ∃ F, R.P w F ∧ ∀ k, F k → w0.heap.size ≤ k := by
  obtain ⟨G, hs⟩ := h.sp
  obtain ⟨F, h1, h2⟩ := hs.get i hi
  exact ⟨F, h1, fun k hk => (hs.lt k (h2 k hk)).1⟩
theorem Hp.blk {w0 w : World} {Rs : List Res} (h : Hp w0 w Rs) (i : Nat) {g : Nat} {o : Obj} (hi : Rs[i]? = some (.blk g o)) : w.heap[g]? = some o := let ⟨_, h1, _⟩ := h.get i hi; h1.1
theorem Hp.blk_ge {w0 w : World} {Rs : List Res} (h : Hp w0 w Rs) (i : Nat) {g : Nat} {o : Obj} (hi : Rs[i]? = some (.blk g o)) : w0.heap.size ≤ g := let ⟨_, h1, h2⟩ := h.get i hi; h2 g ((h1.2 g).2 rfl)
theorem Hp.row {w0 w : World} {Rs : List Res} (h : Hp w0 w Rs) (i : Nat) {α : Type} {d : Kd α} {e base : Nat} {v : Value} {xs : List α} (hi : Rs[i]? = some (.row d e base v xs)) : d.R e w base (fun _ => True) v xs := let ⟨_, h1, _⟩ := h.get i hi; Kd.R_mono h1.1 fun _ _ => trivial
theorem Hp.upd {w0 w : World} {Rs : List Res} (h : Hp w0 w Rs) (i : Nat) {R : Res} (hi : Rs[i]? = some R) :
    ∃ F, R.P w F ∧ (∀ k, F k → w0.heap.size ≤ k) ∧ (∀ j {S : Res}, j ≠ i → Rs[j]? = some S → ∃ G', S.P w G' ∧ ∀ k, F k → ¬ G' k) ∧ ∀ (w1 : World) (R' : Res) (F' : Nat → Prop), Below w0.heap.size w0 w1 → R'.P w1 F' → (∀ k, F' k → F k ∨ w.heap.size ≤ k) → (∀ k, k < w.heap.size → ¬ F k → w1.heap[k]? = w.heap[k]?) → Hp w0 w1 (Rs.set i R') := by
  obtain ⟨G, hs⟩ := h.sp
  obtain ⟨F, h1, h2, ho, h3⟩ := hs.upd i hi
  refine ⟨F, h1, fun k hk => (hs.lt k (h2 k hk)).1, ho, fun w1 R' F' hb hR hF hm => ⟨hb, ?_⟩⟩
  obtain ⟨G', hs', _⟩ := h3 w1 R' F' hR hF hm h.size
  exact ⟨G', hs'⟩
/-- a block is written -/
theorem Hp.setB {w0 w w1 : World} {Rs : List Res} (h : Hp w0 w Rs) (i : Nat) {g : Nat} {o o' : Obj} (hi : Rs[i]? = some (.blk g o)) (hg : w.grownBy w1 (some g)) (hn : w1.heap[g]? = some o') : Hp w0 w1 (Rs.set i (.blk g o')) := by
  obtain ⟨F, h1, h2, _, h3⟩ := h.upd i hi
  refine h3 w1 (.blk g o') F (h.below.grown hg h.size fun k hk => by injection hk with hk; rw [← hk]; exact h2 g ((h1.2 g).2 rfl)) ⟨hn, h1.2⟩ (fun k hk => .inl hk) (fun k hk hf => hg.block k hk fun e => hf ?_)
  injection e with e
  exact (h1.2 k).2 e
theorem Hp.setCell {w0 w : World} {Rs : List Res} (h : Hp w0 w Rs) (i : Nat) {g : Nat} {cs : Array Value} {t : TypeId} (hi : Rs[i]? = some (.blk g (.cells cs t (0, 0)))) (j : Nat) (u : Value) : Hp w0 (w.setCell ⟨g, j, none⟩ u) (Rs.set i (.blk g (.cells (cs.setIfInBounds j u) t (0, 0)))) :=
  h.setB i hi ⟨rfl, rfl, rfl, by simp [World.setCell], fun k hk hne => Below.heap_setCell w ⟨g, j, none⟩ u k fun e => hne (by rw [e])⟩ (blk_set (h.blk i hi) j u)
/-- a row of the call's own is handed to what writes it, and comes back, perhaps elsewhere -/
theorem Hp.setR {w0 w : World} {Rs : List Res} (h : Hp w0 w Rs) (i : Nat) {α : Type} {d : Kd α} {e : Nat} {v : Value} {xs : List α} (hi : Rs[i]? = some (.row d e w0.heap.size v xs)) :
    ∃ F, d.R e w w0.heap.size F v xs ∧ (∀ j {g : Nat} {o : Obj}, j ≠ i → Rs[j]? = some (.blk g o) → ¬ F g) ∧ (∀ j {S : Res}, j ≠ i → Rs[j]? = some S → ∃ G', S.P w G' ∧ ∀ k, F k → ¬ G' k) ∧
      ∀ (w1 : World) {β : Type} {d2 : Kd β} {e2 : Nat} {ok : Nat → Prop} (v' : Value) (ys : List β), d2.R e2 w1 w0.heap.size ok v' ys → (∀ k, ok k → F k ∨ w.heap.size ≤ k) → Below w0.heap.size w0 w1 → Kept w w1 F → Hp w0 w1 (Rs.set i (.row d2 e2 w0.heap.size v' ys)) := by
  obtain ⟨F, h1, h2, h3, h4⟩ := h.upd i hi
  refine ⟨F, h1.1, fun j g o hj hg hF => ?_, h3, fun w1 β d2 e2 ok v' ys hR hok hb hk => h4 w1 (.row d2 e2 w0.heap.size v' ys) _ hb ⟨Kd.R_bound hR, fun k hk => hk.2.2.1⟩ (fun k hk => hok k hk.1) hk.2⟩
  obtain ⟨G', hG, hd⟩ := h3 j hj hg
  exact hd g hF ((hG.2 g).2 rfl)
/-- a row in a block that is known whole -/
theorem C_blk1 {α : Type} (d : Kd α) {w : World} {g : Nat} {x : α} {cs : List Value} {t : TypeId} {fr : Nat × Nat} (hg : w.heap[g]? = some (.cells cs.toArray t fr)) (hK : d.K w x cs) : d.C w (some ⟨g, 0, Option.none⟩) [x].length [x] := by
  refine ⟨rfl, by simp, fun _ => ⟨_, rfl, fun j p hj => ?_⟩⟩
  cases j with
  | zero =>
    simp at hj
    subst hj
    refine ⟨cs, d.K_len hK, hK, fun i u hu => ?_⟩
    rw [add_plain, cell_of_row w g _ cs.toArray t fr hg]
    simpa using hu
  | succ j => simp at hj
theorem rangeB {w : World} {g : Nat} {cs : List Value} {t : TypeId} {fr : Nat × Nat} (hg : w.heap[g]? = some (.cells cs.toArray t fr)) : w.rangeAt g 0 cs := fun j v hv => by
  rw [cell_of_row w g _ cs.toArray t fr hg]
  simpa using hv
/-- what is not asked any more -/
theorem Hp.drop1 {w0 w : World} {R : Res} {Rs : List Res} (h : Hp w0 w (R :: Rs)) : Hp w0 w Rs := by
  obtain ⟨hb, G, hs⟩ := h
  cases hs with
  | cons _ _ h3 _ => exact ⟨hb, _, h3⟩

section
set_option linter.unusedVariables false
variable {P : Program} {ops : Array Oper} {rest : List Oper} {o : Oper} {a : Act} {Q : Exit → Act → World → Prop} {W : World}
theorem wpList_on (hw : Region.wanted o (yielded ops a.tmps) = true) (h : ∀ K : Act → World → Prop, (∀ a w, wpList P ops Q rest a w → K a w) → o.wp P a W K Q) : wpList P ops Q (o :: rest) a W :=
  wpList_step fun K hK => by rw [if_pos hw]; exact h K hK
theorem ev_run (hw : Region.wanted o (yielded ops a.tmps) = true) {w1 : World} {v : Value} (hrun : (execOp a.eval o).run P W = .ok (.value v) w1) (h : wpList P ops Q rest (a.put o.dst v) w1) : wpList P ops Q (o :: rest) a W := by
  refine wpList_on hw fun K hK => ?_
  unfold Oper.wp
  rw [hrun]
  exact hK _ _ h
/-- a value is boxed -/
theorem ev_box (hw : Region.wanted o (yielded ops a.tmps) = true) (t : TypeId) (x : Operand) (ho : o.op = .box t x) (cs : Array Value) (hx : a.eval x = .agg cs)
    (h : ∀ g w1, W.heap.size ≤ g → w1.heap[g]? = some (.cells cs t (0, 0)) → Below W.heap.size W w1 → wpList P ops Q rest (a.put o.dst (.pointer (some ⟨g, 0, Option.none⟩))) w1) : wpList P ops Q (o :: rest) a W := by
  refine wpList_on hw fun K hK => ?_
  unfold Oper.wp execOp
  simp only [ho, hx, Instr.box, newVar, newRow, Value.cells, Sem.run_bind, Sem.run_pure, Result.andThen_ok, run_newObj]
  exact hK _ _ (h _ _ (Nat.le_refl _) (blk_new W _) (below_alloc (Below.refl _ _) _))
/-- a variable is made -/
theorem ev_alloc (hw : Region.wanted o (yielded ops a.tmps) = true) (t : TypeId) (ho : o.op = .alloc t) (z : Value) (hz : (P.info? t).map (·.zero) = some (some z))
    (h : ∀ g w1, W.heap.size ≤ g → w1.heap[g]? = some (.cells z.cells t (0, 0)) → Below W.heap.size W w1 → wpList P ops Q rest (a.put o.dst (.pointer (some ⟨g, 0, Option.none⟩))) w1) : wpList P ops Q (o :: rest) a W := by
  refine wpList_on hw fun K hK => ?_
  obtain ⟨i, hi, hzi⟩ := Option.map_eq_some_iff.1 hz
  have hzr : (zeroValue t).run P W = .ok z W := by simp [zeroValue, typeInfo, hi, hzi]
  unfold Oper.wp execOp
  simp only [ho, Instr.alloc, hzr, newVar, newRow, Sem.run_bind, Sem.run_pure, Result.andThen_ok, run_newObj]
  exact hK _ _ (h _ _ (Nat.le_refl _) (blk_new W _) (below_alloc (Below.refl _ _) _))
/-- a whole block is read -/
theorem ev_load (hw : Region.wanted o (yielded ops a.tmps) = true) (ty : TypeId) (x : Operand) (ho : o.op = .load ty x) (g : Nat) (hx : a.eval x = .pointer (some ⟨g, 0, Option.none⟩)) {t : TypeId} {cs : Array Value} {fr : Nat × Nat} {d : TypeDesc} (hg : W.heap[g]? = some (.cells cs t fr))
    (hu : P.underlying ty = some d) (hd : (match d with | .struct _ | .array _ _ => true | _ => false) = true) (hi : (P.info? ty).map (·.size) = some cs.size) (h : wpList P ops Q rest (a.put o.dst (.agg cs)) W) : wpList P ops Q (o :: rest) a W :=
  wpList_on hw fun _ hK => wp_load_row ty x ho g hx t cs fr d hg hu hd hi (hK _ _ h)
/-- a whole block is written -/
theorem ev_store (hw : Region.wanted o (yielded ops a.tmps) = true) (ty : TypeId) (x y : Operand) (ho : o.op = .store ty x y) (hdst : o.dst = Option.none) (g : Nat) (hx : a.eval x = .pointer (some ⟨g, 0, Option.none⟩)) {cells : Array Value} (hy : a.eval y = .agg cells) {t : TypeId} {old : Array Value} (hg : W.heap[g]? = some (.cells old t (0, 0)))
    (hi : (P.info? ty).map (·.size) = some cells.size) (hs : old.size = cells.size) (h1 : cells.all (·.oneCell') = true)
    (h : ∀ w1, w1.heap[g]? = some (.cells cells t (0, 0)) → W.grownBy w1 (some g) → wpList P ops Q rest a w1) : wpList P ops Q (o :: rest) a W := by
  refine wpList_on hw fun K hK => ?_
  refine wp_store_row ty x y ho g cells hx hy t old hg hi hs h1 (hK _ _ ?_)
  rw [hdst]
  exact h _ (setRow_heap W g old cells t (0, 0) hg) ⟨rfl, rfl, rfl, by rw [setRow_size]; exact Nat.le_refl _, fun k _ hk => setRow_other W g k cells fun e => hk (by rw [e])⟩
end
/-! a slice literal of one wide element -/
theorem fold_set : ∀ (cs : List Value) (k : Nat) (arr : Array Value), arr.size = k + cs.length → (cs.zipIdx k).foldl (fun a (x : Value × Nat) => a.setIfInBounds (0 + x.2) x.1) arr = (arr.toList.take k ++ cs).toArray := by
  intro cs
  induction cs with
  | nil =>
    intro k arr h
    have : arr.toList.take k = arr.toList := List.take_of_length_le (by simpa using Nat.le_of_eq h)
    simp [this]
  | cons c cs ih =>
    intro k arr h
    rw [List.zipIdx_cons, List.foldl_cons, ih (k + 1) _ (by simp at h ⊢; omega)]
    congr 1
    simp only [Nat.zero_add, Array.toList_setIfInBounds]
    rw [List.take_succ_eq_append_getElem (by simp at h ⊢; omega), List.take_set_of_le (Nat.le_refl _)]
    simp
theorem run_buildSlice1 {P : Program} {t e : TypeId} (hu : P.underlying t = some (.slice e)) {cs : List Value} {z : Value} (hi : (P.info? e).map (fun i => (i.zero, i.size)) = some (some z, cs.length)) (hpos : 0 < cs.length) (hmax : cs.length ≤ 16777216) (w : World) :
    (Instr.buildSlice t 1 #[(0, .agg cs.toArray)]).run P w = .ok (.slice (some ⟨w.heap.size, 0, Option.none⟩) 1 1) (w.alloc (.cells cs.toArray e)) := by
  obtain ⟨i, hi1, hi2⟩ := Option.map_eq_some_iff.1 hi
  simp only [Prod.mk.injEq] at hi2
  have hz : (zeroValue e).run P w = .ok z w := by simp [zeroValue, typeInfo, hi1, hi2.1]
  have hs : (sizeOf e).run P w = .ok cs.length w := by simp [sizeOf, typeInfo, hi1, hi2.2]
  have h1 : ¬ (16777216 < cs.length) := by omega
  have h2 : ¬ (cs = []) := by rintro rfl; simp at hpos
  have hfill : ∀ zc : Array Value, Instr.fill (fun i => some (i * cs.length, cs.length)) ((Array.range cs.length).map (zc[· % zc.size]!)) [(0, .agg cs.toArray)] = some cs.toArray := fun zc => by
    have := fold_set cs 0 ((Array.range cs.length).map (zc[· % zc.size]!)) (by simp)
    simpa [Instr.fill, Value.cells] using this
  unfold Instr.buildSlice
  simp [run_underlying hu, hs, h1, h2, hz, hfill, newRow, Result.andThen]
/-! append, literals -/
section
variable {P : Program} {ops : Array Oper} {rest : List Oper} {o : Oper} {a : Act} {Q : Exit → Act → World → Prop} {W w0 : World} {Rs : List Res} {α : Type} {d : Kd α}
/-- elements that lead nowhere -/
def Plain (d : Kd α) : Prop := ∀ (w : World) (base : Nat) (x : α) (cs : List Value), d.K w x cs → d.M w base (fun _ => False) x cs
theorem plain_int (k : IntKind) : Plain (Kd.int k) := fun _ _ _ _ h => h
theorem Hp.newRB {w0 w w1 : World} {Rs : List Res} (h : Hp w0 w Rs) (hb : Below w0.heap.size w0 w1) (hk : ∀ k, k < w.heap.size → w1.heap[k]? = w.heap[k]?) {e : Nat} {ok : Nat → Prop} {v : Value} {xs : List α} (hR : d.R e w1 w0.heap.size ok v xs) (hok : ∀ k, ok k → w.heap.size ≤ k) : Hp w0 w1 (.row d e w0.heap.size v xs :: Rs) :=
  ⟨hb, let ⟨G, hs⟩ := h.sp; ⟨_, .cons (R := .row d e w0.heap.size v xs) ⟨Kd.R_bound hR, fun k hk => hk.2.2.1⟩ (fun k hk => hk.2.1) (hs.frame fun k hk => hk' k (hs.lt k hk).2) (fun k hk hg => by have := hok k hk.1; have := (hs.lt k hg).2; omega)⟩⟩
where hk' := hk
theorem st_append {Kc : Act → World → Prop} (hp : Plain d) (HP : Hp w0 W Rs) (i : Nat) (hw : Region.wanted o (yielded ops a.tmps) = true) (s x : Operand) (t e : TypeId) (z : Value) (bytes : Nat)
    (ho : o.op = .call { callee := .builtin .append, args := #[s, x], argTypes := #[t, t] })
    (ht : P.underlying t = some (.slice e)) (hinfo : (P.info? e).map (fun i => (i.zero, i.size, i.bytes)) = some (some z, d.sz, bytes)) (hz : z.cells.size = d.sz) (hs0 : 0 < d.sz) (hb0 : 0 < bytes)
    (v : Value) (xs ys : List α) (A : Option Addr) (m c : Nat) (hs : a.eval s = v) (hx : a.eval x = .slice A m c)
    (hi : Rs[i]? = some (.row d e w0.heap.size v xs)) (HR : d.C W A m ys) (hl : (xs.length + m) * bytes ≤ 140737488355328)
    (h : ∀ v1 w1, Hp w0 w1 (Rs.set i (.row d e w0.heap.size v1 (xs ++ ys))) → Kc (a.put o.dst v1) w1) : if Region.wanted o (yielded ops a.tmps) = true then Oper.wp P o a W Kc Q else Kc (a.put o.dst undef) W := by
  obtain ⟨F, hR, _, _, hup⟩ := HP.setR i hi
  refine Kd.R_append_rows_step d (w0 := w0) w0.heap.size hw s x t e z bytes ho ht hinfo hz hs0 hb0 v xs ys A m c (fun k => F k ∨ W.heap.size ≤ k) (fun _ => False) hs hx (Kd.R_mono hR fun k hk => .inl hk) HR (fun x cs hK => hp W _ x cs hK) (fun _ hk => hk.elim) (fun k hk => .inr hk) HP.below HP.size hl ?_
  intro v1 w1 ho1 hb1 hg1 hat
  exact h v1 w1 (hup w1 v1 _ ho1 (fun k hk => hk) hb1 ⟨hg1.size, fun k hk hF => hg1.block k hk fun e => hF (hR.1 k e.symm)⟩)
theorem ev_append (hp : Plain d) (HP : Hp w0 W Rs) (i : Nat) (hw : Region.wanted o (yielded ops a.tmps) = true) (s x : Operand) (t e : TypeId) (z : Value) (bytes : Nat)
    (ho : o.op = .call { callee := .builtin .append, args := #[s, x], argTypes := #[t, t] })
    (ht : P.underlying t = some (.slice e)) (hinfo : (P.info? e).map (fun i => (i.zero, i.size, i.bytes)) = some (some z, d.sz, bytes)) (hz : z.cells.size = d.sz) (hs0 : 0 < d.sz) (hb0 : 0 < bytes)
    (v : Value) (xs ys : List α) (A : Option Addr) (m c : Nat) (hs : a.eval s = v) (hx : a.eval x = .slice A m c)
    (hi : Rs[i]? = some (.row d e w0.heap.size v xs)) (HR : d.C W A m ys) (hl : (xs.length + m) * bytes ≤ 140737488355328)
    (h : ∀ v1 w1, Hp w0 w1 (Rs.set i (.row d e w0.heap.size v1 (xs ++ ys))) → wpList P ops Q rest (a.put o.dst v1) w1) : wpList P ops Q (o :: rest) a W := by
  refine wpList_step fun K hK => ?_
  have := st_append (Kc := K) (Q := Q) (ops := ops) hp HP i hw s x t e z bytes ho ht hinfo hz hs0 hb0 v xs ys A m c hs hx hi HR hl (fun v1 w1 hp1 => hK _ _ (h v1 w1 hp1))
  exact this
/-- a slice literal -/
theorem Hp.lit (HP : Hp w0 W Rs) (e : TypeId) {xs : List α} {inner : List Value} (hrep : Reps (d.M W w0.heap.size (fun _ => False)) d.sz xs inner) (hm : xs.length ≤ 9223372036854775807) :
    Hp w0 (W.alloc (.cells inner.toArray e)) (.row d e w0.heap.size (.slice (some ⟨W.heap.size, 0, Option.none⟩) xs.length xs.length) xs :: Rs) := by
  have hw := World.ownsRow_lit (base := w0.heap.size) (e := e) (size := d.sz) W inner.toArray xs.length HP.size (by simpa [maxLen] using hm) (by simpa using hrep.1)
  refine HP.newRB (ok := fun k => W.heap.size ≤ k) (HP.below.alloc HP.size _) (fun k hk => Below.heap_alloc W _ k hk) ⟨fun k hk => ?_, inner, by simpa using hw, hrep.imp_ fun p c hp => ?_⟩ (fun k hk => hk)
  · have : W.heap.size = k := by simpa [Value.ownBlock] using hk
    omega
  · exact d.M_mono (fun k hk => hk.1.elim) (Kd.M_below (d.M_bound hp) (below_alloc (Below.refl _ _) _))
theorem ev_lit (HP : Hp w0 W Rs) (e : TypeId) (hw : Region.wanted o (yielded ops a.tmps) = true) {N : Tmp} (hd : o.dst = some N) {xs : List α} {inner : List Value}
    (hrun : (execOp a.eval o).run P W = .ok (.value (.slice (some ⟨W.heap.size, 0, Option.none⟩) xs.length xs.length)) (W.alloc (.cells inner.toArray e)))
    (hrep : Reps (d.M W w0.heap.size (fun _ => False)) d.sz xs inner) (hm : xs.length ≤ 9223372036854775807)
    (h : ∀ v1 w1, Hp w0 w1 (.row d e w0.heap.size v1 xs :: Rs) → wpList P ops Q rest (a.put o.dst v1) w1) : wpList P ops Q (o :: rest) a W :=
  ev_run hw hrun (h _ _ (HP.lit e hrep hm))
theorem reps_ints (k : IntKind) (w : World) (base : Nat) : ∀ l : List Int, Reps ((Kd.int k).M w base (fun _ => False)) (Kd.int k).sz l (l.map (Value.int k))
  | [] => Reps.none _ _
  | x :: l => Reps.one (show Kd.M (Kd.int k) _ _ _ x [.int k x] from rfl) (reps_ints k w base l)
end
end Go.Proofs.YtpnjbogpooejhaaXs
