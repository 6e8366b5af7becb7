import Derived.Test.YtgflghnbpbiakaaV08
namespace Go.Proofs.Ytgflghnbpbiakaa.Su
open Go.Proofs.Ytgflghnbpbiakaa.H hiding C_ints cellL cellN ev_copy ev_store_mid frozC i64k run_cut_all run_cut_arr run_cut_to setL set_self
open Go.RowKit Go.Proofs.Ytgflghnbpbiakaa.XH Go.Proofs.YtgflghnbpbiakaaW.PrintWords Go.Proofs.YtgflghnbpbiakaaW.PrintLast Go.Proofs.YtgflghnbpbiakaaW.PrintMore Go.Proofs.YtgflghnbpbiakaaXe Go.Proofs.YtgflghnbpbiakaaXs
set_option linter.unusedVariables false
set_option linter.unusedSimpArgs false
attribute [local go_sem ↓] Go.wp_at_zero Go.wp_at_succ
attribute [local go_sem] valUpon
open Go.Proofs.Ytgflghnbpbiakaa.D hiding c_len c_new c_write
theorem Sp.perm {b : Nat} {w : World} {Rs Rs' : List Res} (hp : Rs.Perm Rs') : ∀ {G : Nat → Prop}, Sp b w Rs G → ∃ G', Sp b w Rs' G' ∧ ∀ k, G' k ↔ G k := by
  induction hp with
  | nil => intro G h; exact ⟨G, h, fun k => Iff.rfl⟩
  | cons x _ ih =>
    intro G h
    cases h with
    | cons h1 h2 h3 h4 =>
      obtain ⟨G', h5, h6⟩ := ih h3
      exact ⟨_, .cons h1 h2 h5 fun k hk hg => h4 k hk ((h6 k).1 hg), fun k => or_congr Iff.rfl (h6 k)⟩
  | swap x y l =>
    intro G h
    cases h with
    | @cons _ _ F G1 h1 h2 h3 h4 =>
      cases h3 with
      | @cons _ _ F2 G2 k1 k2 k3 k4 =>
        refine ⟨_, .cons k1 k2 (.cons h1 h2 k3 fun k hk hg => h4 k hk (.inr hg)) fun k hk hg => ?_, fun k => ?_⟩
        · rcases hg with hg | hg
          · exact h4 k hg (.inl hk)
          · exact k4 k hk hg
        · constructor
          · rintro (h | h | h)
            · exact .inr (.inl h)
            · exact .inl h
            · exact .inr (.inr h)
          · rintro (h | h | h)
            · exact .inr (.inl h)
            · exact .inl h
            · exact .inr (.inr h)
  | trans _ _ ih1 ih2 =>
    intro G h
    obtain ⟨G1, h1, e1⟩ := ih1 h
    obtain ⟨G2, h2, e2⟩ := ih2 h1
    exact ⟨G2, h2, fun k => (e2 k).trans (e1 k)⟩
theorem Hp.perm {w0 w : World} {Rs Rs' : List Res} (h : Hp w0 w Rs) (hp : Rs.Perm Rs') : Hp w0 w Rs' := by
  obtain ⟨G, hs⟩ := h.sp
  obtain ⟨G', h1, _⟩ := Sp.perm hp hs
  exact ⟨h.below, G', h1⟩
/-- the resource in front joins those in place i -/
theorem Hp.join {w0 w : World} {R : Res} {Rs l : List Res} (h : Hp w0 w (R :: Rs)) (i : Nat) (hi : Rs[i]? = some (.all l)) : Hp w0 w (Rs.set i (.all (R :: l))) := by
  have hl : i < Rs.length := (List.getElem?_eq_some_iff.1 hi).1
  have h1 : Hp w0 w (l ++ (R :: Rs.set i .none)) := h.opn (i + 1) (l := l) hi
  have h2 : Hp w0 w ((R :: l) ++ Rs.set i .none) := Hp.perm h1 (by
    rw [List.cons_append]
    exact List.perm_middle)
  have h3 := Hp.cls (R :: l) h2 i (set_get _ hl)
  rwa [List.set_set] at h3
theorem Hp.inAll {w0 w : World} {R : Res} {Rs l : List Res} (h : Hp w0 w Rs) (i : Nat) (hi : Rs[i]? = some (.all l)) (hm : R ∈ l) : ∃ F, R.P w F := by
  obtain ⟨F, ⟨G, h1, _⟩, _⟩ := h.get i hi
  obtain ⟨j, hj, e⟩ := List.getElem_of_mem hm
  obtain ⟨F2, h2, _⟩ := h1.get j (R := R) (by rw [List.getElem?_eq_getElem hj, e])
  exact ⟨F2, h2⟩
structure Pt where
  n : Int
  v : Value
  b : List Int
def KPt : Kd Pt where
  sz := 2
  E := []
  K := fun _ x cs => cs = [.int .i64 x.n, x.v] ∧ x.v.oneCell' = true
  M := fun _ _ _ x cs => cs = [.int .i64 x.n, x.v] ∧ x.v.oneCell' = true
  K_len := fun h => by rw [h.1]; rfl
  K_one := fun h u hu => by
    rw [h.1] at hu
    rcases List.mem_cons.1 hu with rfl | hu
    · rfl
    · rw [List.mem_singleton.1 hu]; exact h.2
  K_below := fun _ h => h
  K_of_M := fun h => h
  M_mono := fun _ h => h
  M_bound := fun h => h
  M_move := fun _ h => h
  M_lower := fun _ h => h
theorem plain_KPt : Plain KPt := fun _ _ _ _ h => h
theorem infoKPt : (Try.prog.info? 102).map (fun i => (i.zero, i.size, i.bytes)) = some (some (.agg #[.int .i64 0, .slice none 0 0]), 2, 32) := by kernel_rfl
structure RS where
  many : Int
  firm : List Pt
  soft : List Pt
  has : Bool
  left : Int
  count : Int
  out : Bool
def refC (R : RS) (v1 v2 : Value) : List Value := [.int .i64 R.many, v1, v2, .bool R.has, .int .i64 R.left, .int .i64 R.count, .bool R.out]
def poolL (base : Nat) (ps : List (Value × List Int)) : List Res := ps.map fun p => .row (Kd.int .u8) 5 base p.1 p.2
def inP (ps : List (Value × List Int)) (p : Pt) : Prop := (p.v, p.b) ∈ ps ∧ p.b.length = 64 ∧ Bytes p.b
def refP (R : RS) (ex : List Pt) (x : Value × Value × List (Value × List Int)) : Prop := ∀ p ∈ R.firm ++ (R.soft ++ ex), inP x.2.2 p
def refL (base g : Nat) (R : RS) (x : Value × Value × List (Value × List Int)) : List Res := [.blk g (.cells (refC R x.1 x.2.1).toArray 72 (0, 0)), .row KPt 102 base x.1 R.firm, .row KPt 102 base x.2.1 R.soft, .all (poolL base x.2.2)]
def rRef (base g : Nat) (R : RS) (ex : List Pt) : Res := .ex fun x => .fact (refP R ex x) (.all (refL base g R x))
/-- the last write of a sector -/
def lastP (l : List Pt) (n : Int) : Option Pt := l.foldl (fun a p => if p.n = n then some p else a) none
theorem lastP_snoc (l : List Pt) (p : Pt) (n : Int) : lastP (l ++ [p]) n = if p.n = n then some p else lastP l n := by
  unfold lastP
  rw [List.foldl_append]
  rfl
theorem lastP_from (n : Int) (p : Pt) : ∀ (l : List Pt) (a : Option Pt), l.foldl (fun a p => if p.n = n then some p else a) a = some p → (p ∈ l ∧ p.n = n) ∨ a = some p
  | [], a, h => .inr h
  | q :: l, a, h => by
    rw [List.foldl_cons] at h
    rcases lastP_from n p l _ h with h1 | h1
    · exact .inl ⟨List.mem_cons_of_mem _ h1.1, h1.2⟩
    · split at h1
      · cases h1; exact .inl ⟨List.mem_cons_self, by assumption⟩
      · exact .inr h1
theorem lastP_mem (l : List Pt) (n : Int) (p : Pt) (h : lastP l n = some p) : p ∈ l ∧ p.n = n := by
  rcases lastP_from n p l none h with h1 | h1
  · exact h1
  · cases h1
def lastV (l : List Pt) (n : Int) : Value := match lastP l n with | some p => p.v | none => .slice none 0 0
def nowB (R : RS) (n : Int) : List Int := match lastP R.soft n with | some p => p.b | none => match lastP R.firm n with | some p => p.b | none => s64'
/-- a row of bytes of the pool is read -/
theorem pool_C {w0 w : World} {Rs : List Res} (h : Hp w0 w Rs) (i : Nat) {ps : List (Value × List Int)} (hi : Rs[i]? = some (.all (poolL w0.heap.size ps))) {p : Pt} (hp : inP ps p) : ∃ A c, p.v = .slice A 64 c ∧ 64 ≤ c ∧ Kd.C (Kd.int .u8) w A 64 p.b := by
  obtain ⟨F, hF⟩ := Hp.inAll h i hi (R := .row (Kd.int .u8) 5 w0.heap.size p.v p.b) (List.mem_map.2 ⟨(p.v, p.b), hp.1, rfl⟩)
  have h1 := hF.1
  obtain ⟨A, c, hv⟩ := Kd.R_slice h1
  rw [hp.2.1] at hv
  rw [hv] at h1
  have h2 := Kd.R_reads' h1
  have h3 := h2.2.2
  rw [hp.2.1] at h3
  exact ⟨A, c, hv, h2.2.1, h3⟩
theorem Hp.openR {w0 w : World} {Rs : List Res} (h : Hp w0 w Rs) (i g : Nat) (R : RS) (ex : List Pt) (hi : Rs[i]? = some (rRef w0.heap.size g R ex)) : ∃ v1 v2 ps, (∀ p ∈ R.firm ++ (R.soft ++ ex), inP ps p) ∧ Hp w0 w (.blk g (.cells (refC R v1 v2).toArray 72 (0, 0)) :: .row KPt 102 w0.heap.size v1 R.firm :: .row KPt 102 w0.heap.size v2 R.soft :: .all (poolL w0.heap.size ps) :: Rs.set i .none) := by
  obtain ⟨⟨v1, v2, ps⟩, hm, HP0⟩ := h.openE i hi
  exact ⟨v1, v2, ps, hm, HP0⟩
theorem Hp.closeR {w0 w : World} {Rs : List Res} (R : RS) (ex : List Pt) {i : Nat} {g : Nat} {v1 v2 : Value} {ps : List (Value × List Int)} (hm : ∀ p ∈ R.firm ++ (R.soft ++ ex), inP ps p) (hl : i < Rs.length)
    (h : Hp w0 w (.blk g (.cells (refC R v1 v2).toArray 72 (0, 0)) :: .row KPt 102 w0.heap.size v1 R.firm :: .row KPt 102 w0.heap.size v2 R.soft :: .all (poolL w0.heap.size ps) :: Rs.set i .none)) : Hp w0 w (Rs.set i (rRef w0.heap.size g R ex)) :=
  Hp.closeE (p := refP R ex) (refL w0.heap.size g R) (v1, v2, ps) hm i hl h
/-- an element's bytes are put -/
theorem R_putP {W : World} {e base g cap n : Nat} {ok : Nat → Prop} {xs : List Pt} (h : KPt.R e W base ok (.slice (some ⟨g, 0, none⟩) n cap) xs) (j : Nat) (p : Pt) (hj : xs[j]? = some p) (v : Value) (b : List Int) (hv : v.oneCell' = true) :
    KPt.R e (W.setCell ⟨g, j * 2 + 1, none⟩ v) base ok (.slice (some ⟨g, 0, none⟩) n cap) (xs.set j ⟨p.n, v, b⟩) ∧ W.grownBy (W.setCell ⟨g, j * 2 + 1, none⟩ v) (some g) := by
  obtain ⟨h0, inner, ho, hr⟩ := h
  have hn : n = xs.length := by
    rcases ho.2 with ⟨h', h''⟩ | ⟨g', cap', cur, h', _⟩
    · simp at h'
    · simp at h'; exact h'.2.1
  subst hn
  obtain ⟨s1, s2⟩ := ho.stored (j * 2 + 1) v
  have hjl : j < xs.length := (List.getElem?_eq_some_iff.1 hj).1
  refine ⟨⟨h0, inner.set (j * 2 + 1) v, by rw [List.length_set]; exact s1, ?_⟩, s2⟩
  have hil : inner.length = xs.length * 2 := hr.1
  refine ⟨by rw [List.length_set, List.length_set]; exact hr.1, fun k q hq => ?_⟩
  rw [List.getElem?_set] at hq
  show _ = [Value.int .i64 q.n, q.v] ∧ _
  by_cases e1 : j = k
  · subst e1
    rw [if_pos rfl, if_pos hjl] at hq
    have hq2 : (⟨p.n, v, b⟩ : Pt) = q := Option.some.inj hq
    subst hq2
    have h1 : (List.take 2 (List.drop (j * 2) inner)) = [.int .i64 p.n, p.v] := (hr.2 j p hj).1
    refine ⟨?_, hv⟩
    show (List.take 2 (List.drop (j * 2) (inner.set (j * 2 + 1) v))) = [.int .i64 p.n, v]
    rw [List.drop_set, if_neg (by omega), show j * 2 + 1 - j * 2 = 1 by omega, List.take_set, h1]
    rfl
  · rw [if_neg e1] at hq
    have h1 := hr.2 k q hq
    refine ⟨?_, h1.2⟩
    rw [← h1.1]
    show (List.take 2 (List.drop (k * 2) (inner.set (j * 2 + 1) v))) = List.take 2 (List.drop (k * 2) inner)
    rcases Nat.lt_or_ge k j with h2 | h2
    · rw [List.drop_set, if_neg (by omega), List.take_set_of_le (by omega)]
    · rw [List.drop_set_of_lt (by omega)]
theorem Hp.putP {w0 w : World} {Rs : List Res} (HP : Hp w0 w Rs) (i : Nat) {e g n cap : Nat} {xs : List Pt} (hi : Rs[i]? = some (.row KPt e w0.heap.size (.slice (some ⟨g, 0, none⟩) n cap) xs)) (j : Nat) (p : Pt) (hj : xs[j]? = some p) (v : Value) (b : List Int) (hv : v.oneCell' = true) :
    Hp w0 (w.setCell ⟨g, j * 2 + 1, none⟩ v) (Rs.set i (.row KPt e w0.heap.size (.slice (some ⟨g, 0, none⟩) n cap) (xs.set j ⟨p.n, v, b⟩))) := by
  obtain ⟨F, hR, _, _, hup⟩ := HP.setR i hi
  have h2 := R_putP hR j p hj v b hv
  have hFg : F g := hR.1 g (by simp [Value.ownBlock])
  refine hup _ _ _ h2.1 (fun k hk => .inl hk) (HP.below.grown h2.2 HP.size fun k hk => by injection hk with hk; rw [← hk]; have := Kd.R_base2 hR; rcases this with h | ⟨q, h, hq⟩ <;> simp [Value.ownBlock] at h; omega) ⟨by have := h2.2.size; exact this, fun k hk hf => h2.2.block k hk fun e => hf (by injection e with e; rw [e]; exact hFg)⟩
/-- cells of an element -/
theorem cellsP {w : World} {bA oA n : Nat} {l : List Pt} (h : KPt.C w (some ⟨bA, oA, none⟩) n l) {j : Nat} {p : Pt} (hj : l[j]? = some p) : w.cell? ⟨bA, oA + j * 2, none⟩ = some (.int .i64 p.n) ∧ w.cell? ⟨bA, oA + j * 2 + 1, none⟩ = some p.v := by
  obtain ⟨cs, ⟨e, _⟩, r⟩ := range_K h hj
  subst e
  exact ⟨r 0 _ rfl, r 1 _ rfl⟩
end Go.Proofs.Ytgflghnbpbiakaa.Su
namespace Go.Proofs.Ytgflghnbpbiakaa.Su
open Go.Proofs.Ytgflghnbpbiakaa.H hiding C_ints cellL cellN ev_copy ev_store_mid frozC i64k run_cut_all run_cut_arr run_cut_to setL set_self
open Go.RowKit Go.Proofs.Ytgflghnbpbiakaa.XH Go.Proofs.YtgflghnbpbiakaaW.PrintWords Go.Proofs.YtgflghnbpbiakaaW.PrintLast Go.Proofs.YtgflghnbpbiakaaW.PrintMore Go.Proofs.YtgflghnbpbiakaaXe Go.Proofs.YtgflghnbpbiakaaXs
set_option linter.unusedVariables false
set_option linter.unusedSimpArgs false
attribute [local go_sem ↓] Go.wp_at_zero Go.wp_at_succ
attribute [local go_sem] valUpon
open Go.Proofs.Ytgflghnbpbiakaa.D hiding c_len c_new c_write
theorem eqnil0 (d : Nat) (w : World) : (Op.equalIn (d + 1) 26 (.slice none 0 0) (.slice none 0 0)).run Try.prog w = .ok true w := by
  simp [Op.equalIn, run_underlying Try.underlying26]
theorem eqsome0 (d : Nat) (w : World) (a : Addr) (n c : Nat) : (Op.equalIn (d + 1) 26 (.slice (some a) n c) (.slice none 0 0)).run Try.prog w = .ok false w := by
  simp [Op.equalIn, run_underlying Try.underlying26]
theorem eqnil (w : World) : (binOp BinOp.eql 26 (.slice none 0 0) (.slice none 0 0)).run Try.prog w = .ok (.bool true) w := by
  have h : (Op.equal 26 (.slice none 0 0) (.slice none 0 0)).run Try.prog w = .ok true w := eqnil0 (Op.maxDepth - 1) w
  show ((Op.equal 26 (.slice none 0 0) (.slice none 0 0)) >>= fun b => pure (Value.bool b) : Sem Value).run Try.prog w = _
  rw [Sem.run_bind, h, Result.andThen_ok, Sem.run_pure]
theorem eqsome (w : World) (a : Addr) (n c : Nat) : (binOp BinOp.eql 26 (.slice (some a) n c) (.slice none 0 0)).run Try.prog w = .ok (.bool false) w := by
  have h : (Op.equal 26 (.slice (some a) n c) (.slice none 0 0)).run Try.prog w = .ok false w := eqsome0 (Op.maxDepth - 1) w a n c
  show ((Op.equal 26 (.slice (some a) n c) (.slice none 0 0)) >>= fun b => pure (Value.bool b) : Sem Value).run Try.prog w = _
  rw [Sem.run_bind, h, Result.andThen_ok, Sem.run_pure]
theorem Hp.addNone {w0 w : World} {Rs : List Res} (h : Hp w0 w Rs) : Hp w0 w (.none :: Rs) :=
  ⟨h.below, let ⟨G, hs⟩ := h.sp; ⟨_, .cons (R := .none) (F := fun _ => False) (fun k hk => hk) (fun k hk => hk.elim) hs (fun k hk => hk.elim)⟩⟩
theorem lastP_take (l : List Pt) (n : Int) (j : Nat) (p : Pt) (hj : l[j]? = some p) : lastP (l.take (j + 1)) n = if p.n = n then some p else lastP (l.take j) n := by
  have hl : j < l.length := (List.getElem?_eq_some_iff.1 hj).1
  rw [List.take_succ_eq_append_getElem hl, lastP_snoc]
  rw [show l[j] = p from by rw [List.getElem?_eq_getElem hl] at hj; exact Option.some.inj hj]
set_option maxHeartbeats 8000000 in
set_option maxRecDepth 100000 in
theorem c_rlast (A : Option Addr) (c : Nat) (l : List Pt) (n : Int) (w : World) (h : KPt.C w A l.length l) (hm : l.length ≤ 1000000) :
    Calls Try.prog 71 #[.slice A l.length c, .int .i64 n] w fun e w' => e = .returned (lastV l n) ∧ w' = w := by
  have HC := Aside0.mk h
  have HM := Aside0.mk hm
  obtain ⟨x0, hx0⟩ : ∃ z, (l.length : Int) - 1 = z := ⟨_, rfl⟩
  have e0 := i64k hx0 (by omega)
  have HX0 := Aside0.mk hx0
  clear h hm hx0
  go_enter Try.func71, Try.ntmps71
  go_wp2_with fail
  clear e0
  go_loopg [5] (l.length + 1) (fun kq v5 w' => ∃ (j : Nat) (x : Int), v5 = .int .i64 x ∧ Aside0 (x = (j : Int) - 1) ∧ Aside0 (kq = j + 1 ∧ j ≤ l.length) ∧ Aside0 (lastP l n = lastP (l.take j) n) ∧ w' = w)
  case atStart => exact ⟨l.length, x0, rfl, ⟨HX0.out.symm⟩, ⟨rfl, Nat.le_refl _⟩, ⟨by rw [List.take_length]⟩, rfl⟩
  clear HX0
  obtain ⟨j, x, rfl, HX, HK, HL, rfl⟩ := hrel
  have hx := HX.out
  have hk := HK.out
  have hm := HM.out
  by_cases c1 : 0 < j
  · have d1 : decide (x ≥ 0) = true := decide_eq_true (by omega)
    have d1' : decide (0 ≤ x) = true := decide_eq_true (by omega)
    obtain ⟨q, rfl⟩ : ∃ q, j = q + 1 := ⟨j - 1, by omega⟩
    obtain ⟨p, hp⟩ : ∃ p, l[q]? = some p := ⟨_, List.getElem?_eq_getElem (by omega)⟩
    obtain ⟨bA, oA, rfl⟩ := C_addrK (by decide) HC.out (by omega)
    obtain ⟨hc0, hc1⟩ := cellsP HC.out hp
    have hxq : x.toNat = q := by omega
    rw [← hxq] at hc0 hc1
    have p0 : 0 ≤ x := by omega
    have q0 : x < (l.length : Int) := by omega
    obtain ⟨y, hy⟩ : ∃ z, x - 1 = z := ⟨_, rfl⟩
    have ey := i64k hy (by omega)
    have HLT := Aside0.mk (lastP_take l n q p hp)
    have HY := Aside0.mk hy
    by_cases c2 : p.n = n
    · have d2 : (p.n == n) = true := beq_iff_eq.2 c2
      have HR := Aside0.mk (show lastV l n = p.v from by unfold lastV; rw [HL.out, HLT.out, if_pos c2])
      clear hx hk hm c1 c2 hp hxq hy
      go_wp2
      go_ret
      exact ⟨by rw [HR.out]; rfl, rfl⟩
    · have d2 : (p.n == n) = false := beq_eq_false_iff_ne.2 c2
      have HL2 := Aside0.mk (show lastP l n = lastP (l.take q) n from by rw [HL.out, HLT.out, if_neg c2])
      have HQ := Aside0.mk (show y = (q : Int) - 1 ∧ q ≤ l.length ∧ gk = q + 2 by omega)
      clear hx hk hm c1 c2 hp hxq hy
      go_wp2
      go_roundg (gk - 1)
      case measure => have := HQ.out; omega
      case rel => exact ⟨q, y, rfl, ⟨HQ.out.1⟩, ⟨by have := HQ.out; omega⟩, HL2, rfl⟩
  · have d1 : decide (x ≥ 0) = false := decide_eq_false (by omega)
    have d1' : decide (0 ≤ x) = false := decide_eq_false (by omega)
    obtain rfl : j = 0 := by omega
    have HR := Aside0.mk (show lastV l n = .slice none 0 0 from by unfold lastV; rw [HL.out]; rfl)
    clear hx hk hm c1
    go_wp2
    go_ret
    exact ⟨by rw [HR.out]; rfl, rfl⟩
set_option maxHeartbeats 8000000 in
set_option maxRecDepth 100000 in
theorem c_rnow {w0 w : World} {Rs : List Res} (HP0 : Hp w0 w Rs) (i g : Nat) (R : RS) (ex : List Pt) (hi : Rs[i]? = some (rRef w0.heap.size g R ex)) (hls : R.soft.length ≤ 1000000) (hlf : R.firm.length ≤ 1000000) (n : Int) :
    Calls Try.prog 58 #[.pointer (some ⟨g, 0, none⟩), .int .i64 n] w fun e w' => ∃ (bA oA c : Nat) (X : Res), e = .returned (.slice (some ⟨bA, oA, none⟩) 64 c) ∧ 64 ≤ c ∧ Hp w0 w' (X :: Rs) ∧ ∀ w'', Hp w0 w'' (X :: Rs) → Kd.C (Kd.int .u8) w'' (some ⟨bA, oA, none⟩) 64 (nowB R n) := by
  have heqn := eqnil
  have heqs := eqsome
  have HRD := Aside0.mk (fun (p : Pt) (hp : p ∈ R.firm ++ (R.soft ++ ex)) => (show ∃ bA oA c, p.v = .slice (some ⟨bA, oA, none⟩) 64 c ∧ 64 ≤ c ∧ ∀ w'', Hp w0 w'' (.none :: Rs) → Kd.C (Kd.int .u8) w'' (some ⟨bA, oA, none⟩) 64 p.b from by
    obtain ⟨v1, v2, ps, hm, HP1⟩ := Hp.openR HP0 i g R ex hi
    obtain ⟨A, c, e1, e2, e3⟩ := pool_C HP1 3 rfl (hm p hp)
    obtain ⟨bA, oA, rfl⟩ := C_addr e3 (by decide) (C_len e3)
    refine ⟨bA, oA, c, e1, e2, fun w'' h => ?_⟩
    obtain ⟨v1', v2', ps', hm', HP1'⟩ := Hp.openR h.drop1 i g R ex hi
    obtain ⟨A', c', k1, k2, k3⟩ := pool_C HP1' 3 rfl (hm' p hp)
    rw [e1] at k1
    cases k1
    exact k3))
  have HH := Aside0.mk HP0
  obtain ⟨v1, v2, ps, hm, HP1⟩ := Hp.openR HP0 i g R ex hi
  have hil : i < Rs.length := (List.getElem?_eq_some_iff.1 hi).1
  have HP := Aside0.mk HP1
  have HM := Aside0.mk hm
  have HI := Aside0.mk hil
  clear HP0 HP1 hm hil
  obtain ⟨A1, c1, rfl⟩ := Kd.R_slice (HP.out.row 1 rfl)
  obtain ⟨A2, c2, rfl⟩ := Kd.R_slice (HP.out.row 2 rfl)
  have hc1 : w.cell? ⟨g, 1, none⟩ = some (.slice A1 R.firm.length c1) := blk_cell (HP.out.blk 0 rfl) 1
  have hc2 : w.cell? ⟨g, 2, none⟩ = some (.slice A2 R.soft.length c2) := blk_cell (HP.out.blk 0 rfl) 2
  have CS := Aside0.mk (c_rlast A2 c2 R.soft n w (Kd.R_reads' (HP.out.row 2 rfl)).2.2 hls)
  have CF := Aside0.mk (c_rlast A1 c1 R.firm n w (Kd.R_reads' (HP.out.row 1 rfl)).2.2 hlf)
  have HNW : Aside0 (nowB R n = match lastP R.soft n with | some p => p.b | none => match lastP R.firm n with | some p => p.b | none => s64') := ⟨rfl⟩
  have HVS : Aside0 (lastV R.soft n = match lastP R.soft n with | some p => p.v | none => .slice none 0 0) := ⟨rfl⟩
  have HVF : Aside0 (lastV R.firm n = match lastP R.firm n with | some p => p.v | none => .slice none 0 0) := ⟨rfl⟩
  obtain ⟨ls, hls_⟩ : ∃ z, lastP R.soft n = z := ⟨_, rfl⟩
  obtain ⟨lf, hlf_⟩ : ∃ z, lastP R.firm n = z := ⟨_, rfl⟩
  rw [hls_] at HNW HVS
  rw [hlf_] at HNW HVF
  obtain ⟨nb, hnb⟩ : ∃ z, nowB R n = z := ⟨_, rfl⟩
  rw [hnb] at HNW ⊢
  rw [HVS.out] at CS
  rw [HVF.out] at CF
  have HMS := Aside0.mk (fun (p : Pt) (h : ls = some p) => (lastP_mem R.soft n p (hls_.trans h)).1)
  have HMF := Aside0.mk (fun (p : Pt) (h : lf = some p) => (lastP_mem R.firm n p (hlf_.trans h)).1)
  clear hls hlf hls_ hlf_ hnb HVS HVF HP HM
  cases ls with
  | some p =>
    obtain ⟨bA, oA, cA, e1, e2, e3⟩ := HRD.out p (List.mem_append_right _ (List.mem_append_left _ (HMS.out p rfl)))
    have CS2 := Aside0.mk (show Calls Try.prog 71 #[.slice A2 R.soft.length c2, .int .i64 n] w fun e w' => e = .returned (.slice (some ⟨bA, oA, none⟩) 64 cA) ∧ w' = w from by rw [← e1]; exact CS.out)
    have HE := Aside0.mk (And.intro e2 e3)
    clear CS CF HMS HMF e1 e2 e3 HRD
    go_enter Try.func58, Try.ntmps58
    go_wp2_with fail
    refine CS2.out.mono ?_; rintro e w_ ⟨rfl, rfl⟩
    go_wp2_with fail
    go_ret
    exact ⟨bA, oA, cA, .none, rfl, HE.out.1, Hp.addNone HH.out, fun w'' h => by rw [HNW.out]; exact HE.out.2 w'' h⟩
  | none =>
    have CS2 := Aside0.mk (show Calls Try.prog 71 #[.slice A2 R.soft.length c2, .int .i64 n] w fun e w' => e = .returned (.slice none 0 0) ∧ w' = w from CS.out)
    clear CS HMS
    cases lf with
    | some p =>
      obtain ⟨bA, oA, cA, e1, e2, e3⟩ := HRD.out p (List.mem_append_left _ (HMF.out p rfl))
      have CF2 := Aside0.mk (show Calls Try.prog 71 #[.slice A1 R.firm.length c1, .int .i64 n] w fun e w' => e = .returned (.slice (some ⟨bA, oA, none⟩) 64 cA) ∧ w' = w from by rw [← e1]; exact CF.out)
      have HE := Aside0.mk (And.intro e2 e3)
      clear CF HMF e1 e2 e3 HRD
      go_enter Try.func58, Try.ntmps58
      go_wp2_with fail
      refine CS2.out.mono ?_; rintro e w_ ⟨rfl, rfl⟩
      go_wp2_with fail
      refine CF2.out.mono ?_; rintro e w_ ⟨rfl, rfl⟩
      go_wp2_with fail
      go_ret
      exact ⟨bA, oA, cA, .none, rfl, HE.out.1, Hp.addNone HH.out, fun w'' h => by rw [HNW.out]; exact HE.out.2 w'' h⟩
    | none =>
      have CF2 := Aside0.mk (show Calls Try.prog 71 #[.slice A1 R.firm.length c1, .int .i64 n] w fun e w' => e = .returned (.slice none 0 0) ∧ w' = w from CF.out)
      have hmk : ∀ w : World, (Instr.makeSlice 26 (.int .i64 64) (.int .i64 64)).run Try.prog w = .ok (.slice (some ⟨w.heap.size, 0, none⟩) 64 64) (w.alloc (.cells (u8s s64').toArray 5)) := fun w => run_make8 64 (by decide) w
      clear CF HMF HRD
      go_enter Try.func58, Try.ntmps58
      go_wp2_with fail
      refine CS2.out.mono ?_; rintro e w_ ⟨rfl, rfl⟩
      go_wp2_with fail
      refine CF2.out.mono ?_; rintro e w_ ⟨rfl, rfl⟩
      go_wp2_with (first | ((with_reducible refine gate_dst (N := 22) rfl ?_); refine ev_make rfl 26 _ _ rfl rfl rfl (hmk _) ?_))
      go_ret
      exact ⟨_, 0, 64, _, rfl, Nat.le_refl _, HH.out.alloc (.cells (u8s s64').toArray 5 (0, 0)), fun w'' h => by rw [HNW.out]; exact C_tk (C_blkW (k := .u8) (l := s64') (h.blk 0 rfl) (by decide)) 64 (by decide) rfl⟩
def RS.readyE (R : RS) (n : Int) : Int := if R.out then 10 else if n < 0 ∨ R.many ≤ n then 5 else 0
set_option maxHeartbeats 8000000 in
set_option maxRecDepth 100000 in
theorem c_rreadE {w0 w : World} {Rs : List Res} (HP0 : Hp w0 w Rs) (i g : Nat) (R : RS) (ex : List Pt) (hi : Rs[i]? = some (rRef w0.heap.size g R ex)) (n : Int) (h0 : R.readyE n ≠ 0) :
    Calls Try.prog 70 #[.pointer (some ⟨g, 0, none⟩), .int .i64 n] w fun e w' => e = .returned (.tuple #[.slice none 0 0, .int .i64 (R.readyE n)]) ∧ w' = w := by
  obtain ⟨v1, v2, ps, hm, HP1⟩ := Hp.openR HP0 i g R ex hi
  have hil : i < Rs.length := (List.getElem?_eq_some_iff.1 hi).1
  have HP := Aside0.mk HP1
  have HM := Aside0.mk hm
  have HI := Aside0.mk hil
  clear HP0 HP1 hm hil
  have hc0 : w.cell? ⟨g, 0, none⟩ = some (.int .i64 R.many) := blk_cell (HP.out.blk 0 rfl) 0
  have hc6 : w.cell? ⟨g, 6, none⟩ = some (.bool R.out) := blk_cell (HP.out.blk 0 rfl) 6
  unfold RS.readyE at h0 ⊢
  clear HP HM HI hi
  obtain ⟨o, ho⟩ : ∃ z, R.out = z := ⟨_, rfl⟩
  obtain ⟨m, hm⟩ : ∃ z, R.many = z := ⟨_, rfl⟩
  rw [ho] at hc6 h0 ⊢
  rw [hm] at hc0 h0 ⊢
  clear ho hm
  cases o with
  | true =>
    clear h0
    go_enter Try.func70, Try.ntmps70
    go_wp2_with fail
    refine bodyPost_ret (results_two_tmps rfl _ _ rfl rfl) rfl ?_
    exact ⟨rfl, rfl⟩
  | false =>
    rw [if_neg (by decide)] at h0 ⊢
    by_cases c1 : n < 0
    · have d1 : decide (n < 0) = true := decide_eq_true c1
      rw [if_pos (.inl c1)]
      clear h0 c1
      go_enter Try.func70, Try.ntmps70
      go_wp2_with fail
      refine bodyPost_ret (results_two_tmps rfl _ _ rfl rfl) rfl ?_
      exact ⟨rfl, rfl⟩
    · have d1 : decide (n < 0) = false := decide_eq_false c1
      by_cases c2 : m ≤ n
      · have d2 : decide (n ≥ m) = true := decide_eq_true c2
        rw [if_pos (.inr c2)]
        clear h0 c1 c2
        go_enter Try.func70, Try.ntmps70
        go_wp2_with fail
        refine bodyPost_ret (results_two_tmps rfl _ _ rfl rfl) rfl ?_
        exact ⟨rfl, rfl⟩
      · exact absurd (if_neg (by omega)) h0
set_option maxHeartbeats 8000000 in
set_option maxRecDepth 100000 in
theorem c_rread {w0 w : World} {Rs : List Res} (HP0 : Hp w0 w Rs) (i g : Nat) (R : RS) (ex : List Pt) (hi : Rs[i]? = some (rRef w0.heap.size g R ex)) (hls : R.soft.length ≤ 1000000) (hlf : R.firm.length ≤ 1000000) (n : Int) (h0 : R.readyE n = 0) :
    Calls Try.prog 70 #[.pointer (some ⟨g, 0, none⟩), .int .i64 n] w fun e w' => ∃ A c, e = .returned (.tuple #[.slice A 64 c, .int .i64 0]) ∧ Hp w0 w' (.row (Kd.int .u8) 5 w0.heap.size (.slice A 64 c) (nowB R n) :: Rs) := by
  have HH := Aside0.mk HP0
  have HI2 := Aside0.mk hi
  have HLL := Aside0.mk (And.intro hls hlf)
  obtain ⟨v1, v2, ps, hm, HP1⟩ := Hp.openR HP0 i g R ex hi
  have hil : i < Rs.length := (List.getElem?_eq_some_iff.1 hi).1
  have HP := Aside0.mk HP1
  have HM := Aside0.mk hm
  have HI := Aside0.mk hil
  clear HP0 HP1 hm hil
  have hc0 : w.cell? ⟨g, 0, none⟩ = some (.int .i64 R.many) := blk_cell (HP.out.blk 0 rfl) 0
  have hc6 : w.cell? ⟨g, 6, none⟩ = some (.bool R.out) := blk_cell (HP.out.blk 0 rfl) 6
  have ho : R.out = false := by
    unfold RS.readyE at h0
    cases h : R.out with
    | true => rw [h] at h0; simp at h0
    | false => rfl
  have hn : ¬ (n < 0 ∨ R.many ≤ n) := by
    unfold RS.readyE at h0
    rw [ho, if_neg (by decide)] at h0
    intro h
    rw [if_pos h] at h0
    omega
  have d1 : decide (n < 0) = false := decide_eq_false (by omega)
  have d2 : decide (n ≥ R.many) = false := decide_eq_false (by omega)
  rw [ho] at hc6
  obtain ⟨m, hm⟩ : ∃ z, R.many = z := ⟨_, rfl⟩
  rw [hm] at hc0 d2
  clear hm ho hn h0 HP HM HI hls hlf hi
  go_enter Try.func70, Try.ntmps70
  go_wp2_with (first | ((with_reducible refine gate_dst (N := 20) rfl ?_); refine ev_run rfl (w1 := w.alloc (.cells #[] 5 (0, 0))) (v := .slice (some ⟨w.heap.size, 0, none⟩) 0 0) ?hr5 ?_; (case hr5 => first | (go_simp; done) | (go_simp; rfl))))
  have HP := Aside0.mk (show Hp w0 (w.alloc (.cells #[] 5 (0, 0))) (.row (Kd.int .u8) 5 w0.heap.size (.slice (some ⟨w.heap.size, 0, none⟩) 0 0) [] :: Rs) from HH.out.lit 5 (d := Kd.int .u8) (xs := []) (inner := []) (reps_ints .u8 _ _ []) (by decide))
  obtain ⟨w1, hw1⟩ : ∃ z, w.alloc (.cells #[] 5 (0, 0)) = z := ⟨_, rfl⟩
  obtain ⟨A0, hA0⟩ : ∃ z : Option Addr, some ⟨w.heap.size, 0, none⟩ = z := ⟨_, rfl⟩
  rw [hw1, hA0] at HP
  rw [hw1, hA0]
  clear hw1 hA0 HH hc0 hc6
  refine (c_rnow HP.out (i + 1) g R ex HI2.out HLL.out.1 HLL.out.2 n).mono ?_
  rintro e w2 ⟨bA, oA, c, X, rfl, hc, hpn, hC⟩
  clear HP
  have HP := Aside0.mk hpn
  have HC := Aside0.mk (hC w2 hpn)
  have HN := Aside0.mk (show (nowB R n).length = 64 from C_len (hC w2 hpn))
  obtain ⟨nb, hnb⟩ : ∃ z, nowB R n = z := ⟨_, rfl⟩
  rw [hnb] at HC HN
  have HNB := Aside0.mk hnb
  clear hpn hC hc hnb
  go_wp2_with (first | ((with_reducible refine gate_dst (N := 24) rfl ?_); refine ev_append (plain_int .u8) HP.out 1 rfl (.tmp 20) (.tmp 23) 26 5 (.int .u8 0) 1 rfl Try.underlying26 info5 rfl (by decide) (by decide) (.slice A0 0 0) [] nb (some ⟨bA, oA, none⟩) 64 c rfl rfl rfl HC.out (by decide) ?_; intro v_n wq hpn; clear HP; have HP := Aside0.mk hpn; clear hpn; obtain ⟨A_n, c_n, rfl⟩ := Kd.R_slice (HP.out.row 1 rfl); rw [List.nil_append] at HP; rw [List.nil_append, HN.out]; rw [HN.out] at HP))
  refine bodyPost_ret (results_two_tmps rfl _ _ rfl rfl) rfl ?_
  exact ⟨A_n, c_n, rfl, by rw [HNB.out]; exact HP.out.drop1⟩
def stepR (R : RS) : RS := if R.has = true ∧ R.left = 0 then { R with out := true } else { R with left := if R.has then wrap64 (R.left - 1) else R.left, count := wrap64 (R.count + 1) }
def stepB (R : RS) : Bool := !(R.has && decide (R.left = 0))
set_option maxHeartbeats 8000000 in
set_option maxRecDepth 100000 in
theorem c_rstep {w0 w : World} {Rs : List Res} (HP0 : Hp w0 w Rs) (i g : Nat) (R : RS) (ex : List Pt) (hi : Rs[i]? = some (rRef w0.heap.size g R ex)) :
    Calls Try.prog 59 #[.pointer (some ⟨g, 0, none⟩)] w fun e w' => e = .returned (.bool (stepB R)) ∧ Hp w0 w' (Rs.set i (rRef w0.heap.size g (stepR R) ex)) := by
  obtain ⟨v1, v2, ps, hm, HP1⟩ := Hp.openR HP0 i g R ex hi
  have hil : i < Rs.length := (List.getElem?_eq_some_iff.1 hi).1
  have HP := Aside0.mk HP1
  have HM := Aside0.mk hm
  have HI := Aside0.mk hil
  clear HP0 HP1 hm hil
  have hc3 : w.cell? ⟨g, 3, none⟩ = some (.bool R.has) := blk_cell (HP.out.blk 0 rfl) 3
  have hc4 : w.cell? ⟨g, 4, none⟩ = some (.int .i64 R.left) := blk_cell (HP.out.blk 0 rfl) 4
  have hc5 : w.cell? ⟨g, 5, none⟩ = some (.int .i64 R.count) := blk_cell (HP.out.blk 0 rfl) 5
  have hc6 : w.cell? ⟨g, 6, none⟩ = some (.bool R.out) := blk_cell (HP.out.blk 0 rfl) 6
  have hf4 := blk_frozen (HP.out.blk 0 rfl) 4
  have hf5 := blk_frozen (HP.out.blk 0 rfl) 5
  have hf6 := blk_frozen (HP.out.blk 0 rfl) 6
  have HS0 := Aside0.mk (show R.has = false → stepR R = { R with count := wrap64 (R.count + 1) } ∧ stepB R = true from fun h => ⟨by unfold stepR; rw [if_neg (by rw [h]; simp), h]; rfl, by unfold stepB; rw [h]; rfl⟩)
  have HS1 := Aside0.mk (show R.has = true → R.left = 0 → stepR R = { R with out := true } ∧ stepB R = false from fun h h2 => ⟨by unfold stepR; rw [if_pos ⟨h, h2⟩], by unfold stepB; rw [h, h2]; rfl⟩)
  have HS2 := Aside0.mk (show R.has = true → R.left ≠ 0 → stepR R = { R with left := wrap64 (R.left - 1), count := wrap64 (R.count + 1) } ∧ stepB R = true from fun h h2 => ⟨by unfold stepR; rw [if_neg (fun h3 => h2 h3.2), if_pos h], by unfold stepB; rw [h, decide_eq_false h2]; rfl⟩)
  have HP5 := Aside0.mk (HP.out.setCell 0 rfl 6 (.bool true))
  have HP4 := Aside0.mk (HP.out.setCell 0 rfl 4 (.int .i64 (wrap64 (R.left - 1))))
  have HP3 := Aside0.mk (HP.out.setCell 0 rfl 5 (.int .i64 (wrap64 (R.count + 1))))
  have HP6 := Aside0.mk (HP4.out.setCell 0 rfl 5 (.int .i64 (wrap64 (R.count + 1))))
  obtain ⟨h, hh⟩ : ∃ z, R.has = z := ⟨_, rfl⟩
  rw [hh] at hc3
  have HHH := Aside0.mk hh
  clear hi hh
  cases h with
  | false =>
    clear HP5 HP4 HP6 hf4 hf6
    go_enter Try.func59, Try.ntmps59
    go_wp2
    go_ret
    exact ⟨by rw [(HS0.out HHH.out).2]; rfl, by rw [(HS0.out HHH.out).1]; exact Hp.closeR { R with count := wrap64 (R.count + 1) } ex HM.out HI.out HP3.out⟩
  | true =>
    by_cases c : R.left = 0
    · have d : (R.left == 0) = true := beq_iff_eq.2 c
      have HSS := Aside0.mk (HS1.out HHH.out c)
      clear HP4 HP3 HP6 hf4 hf5 c HS0 HS1 HS2
      go_enter Try.func59, Try.ntmps59
      go_wp2
      go_ret
      exact ⟨by rw [HSS.out.2]; rfl, by rw [HSS.out.1]; exact Hp.closeR { R with out := true } ex HM.out HI.out HP5.out⟩
    · have d : (R.left == 0) = false := beq_eq_false_iff_ne.2 c
      have HSS := Aside0.mk (HS2.out HHH.out c)
      have hc5b := blk_cell (HP4.out.blk 0 rfl) 5
      have hc5c := hc5b.trans (show _ = some (Value.int .i64 R.count) from rfl)
      have hf5b := blk_frozen (HP4.out.blk 0 rfl) 5
      clear HP5 HP3 hf6 c HS0 HS1 HS2 hc5b
      go_enter Try.func59, Try.ntmps59
      go_wp2
      go_ret
      exact ⟨by rw [HSS.out.2]; rfl, by rw [HSS.out.1]; exact Hp.closeR { R with left := wrap64 (R.left - 1), count := wrap64 (R.count + 1) } ex HM.out HI.out HP6.out⟩
def fuseRE (n : Int) : Int := if n < 0 then 2 else 0
def fuseR (R : RS) (n : Int) : RS := if n < 0 then R else { R with has := true, left := n }
set_option maxHeartbeats 8000000 in
set_option maxRecDepth 100000 in
theorem c_rfuse {w0 w : World} {Rs : List Res} (HP0 : Hp w0 w Rs) (i g : Nat) (R : RS) (ex : List Pt) (hi : Rs[i]? = some (rRef w0.heap.size g R ex)) (n : Int) :
    Calls Try.prog 31 #[.pointer (some ⟨g, 0, none⟩), .int .i64 n] w fun e w' => e = .returned (.int .i64 (fuseRE n)) ∧ Hp w0 w' (Rs.set i (rRef w0.heap.size g (fuseR R n) ex)) := by
  have HH := Aside0.mk HP0
  have HSELF := Aside0.mk (show Rs.set i (rRef w0.heap.size g R ex) = Rs from set_self hi)
  obtain ⟨v1, v2, ps, hm, HP1⟩ := Hp.openR HP0 i g R ex hi
  have hil : i < Rs.length := (List.getElem?_eq_some_iff.1 hi).1
  have HP := Aside0.mk HP1
  have HM := Aside0.mk hm
  have HI := Aside0.mk hil
  clear HP0 HP1 hm hil
  have hc3 : w.cell? ⟨g, 3, none⟩ = some (.bool R.has) := blk_cell (HP.out.blk 0 rfl) 3
  have hf3 := blk_frozen (HP.out.blk 0 rfl) 3
  have HP3 := Aside0.mk (HP.out.setCell 0 rfl 3 (.bool true))
  have hc4 := blk_cell (HP3.out.blk 0 rfl) 4
  have hc4b := hc4.trans (show _ = some (Value.int .i64 R.left) from rfl)
  have hf4 := blk_frozen (HP3.out.blk 0 rfl) 4
  have HP4 := Aside0.mk (HP3.out.setCell 0 rfl 4 (.int .i64 n))
  unfold fuseRE fuseR
  clear hi hc4
  by_cases c : n < 0
  · have d : decide (n < 0) = true := decide_eq_true c
    rw [if_pos c, if_pos c, HSELF.out]
    clear c HP3 HP4 hc3 hc4b hf3 hf4
    go_enter Try.func31, Try.ntmps31
    go_wp2
    go_ret
    exact ⟨rfl, HH.out⟩
  · have d : decide (n < 0) = false := decide_eq_false c
    rw [if_neg c, if_neg c]
    clear c
    go_enter Try.func31, Try.ntmps31
    go_wp2
    go_ret
    exact ⟨rfl, Hp.closeR { R with has := true, left := n } ex HM.out HI.out HP4.out⟩
def newR (n : Int) : RS := ⟨n, [], [], false, 0, 0, false⟩
set_option maxHeartbeats 8000000 in
set_option maxRecDepth 100000 in
theorem c_rnewE (n : Int) (h0 : n < 0 ∨ 65536 < n) (w : World) :
    Calls Try.prog 27 #[.int .i64 n] w fun e w' => e = .returned (.tuple #[.pointer none, .int .i64 5]) ∧ w' = w := by
  by_cases h1 : n < 0
  · have d1 : decide (n < 0) = true := decide_eq_true h1
    clear h0 h1
    go_enter Try.func27, Try.ntmps27
    go_wp2_with fail
    refine bodyPost_ret (results_two_tmps rfl _ _ rfl rfl) rfl ?_
    exact ⟨rfl, rfl⟩
  · have d1 : decide (n < 0) = false := decide_eq_false h1
    have d2 : decide (n > 65536) = true := decide_eq_true (by omega)
    clear h0 h1
    go_enter Try.func27, Try.ntmps27
    go_wp2_with fail
    refine bodyPost_ret (results_two_tmps rfl _ _ rfl rfl) rfl ?_
    exact ⟨rfl, rfl⟩
set_option maxHeartbeats 8000000 in
set_option maxRecDepth 100000 in
theorem c_rnew {w0 w : World} {Rs : List Res} (HP : Hp w0 w Rs) (n : Int) (h0 : 0 ≤ n) (h1 : n ≤ 65536) :
    Calls Try.prog 27 #[.int .i64 n] w fun e w' => ∃ g, e = .returned (.tuple #[.pointer (some ⟨g, 0, none⟩), .int .i64 0]) ∧ Hp w0 w' (rRef w0.heap.size g (newR n) [] :: Rs) := by
  have HPa := Aside0.mk HP
  have d1 : decide (n < 0) = false := decide_eq_false (by omega)
  have d2 : decide (n > 65536) = false := decide_eq_false (by omega)
  clear h0 h1 HP
  go_enter Try.func27, Try.ntmps27
  go_wp2_with fail
  refine bodyPost_ret (results_two_tmps rfl _ _ rfl rfl) rfl ?_
  have h := HPa.out.alloc (.cells (refC (newR n) (.slice none 0 0) (.slice none 0 0)).toArray 72 (0, 0))
  refine ⟨_, rfl, ?_⟩
  have k0 := Hp.addNone h
  have k1 := Hp.as k0 0 (R' := .all (poolL w0.heap.size [])) rfl (fun F hF => ⟨fun _ => False, .nil, fun k => ⟨fun hk => hF k hk, fun hk => hk.elim⟩⟩)
  have k2 := Hp.nilrow k1 KPt 102 (.slice none 0 0) (fun ok => Kd.R_nil KPt 102 _ _ ok)
  have k3 := Hp.nilrow k2 KPt 102 (.slice none 0 0) (fun ok => Kd.R_nil KPt 102 _ _ ok)
  have k4 := Hp.perm k3 (Rs' := [.blk w.heap.size (.cells (refC (newR n) (.slice none 0 0) (.slice none 0 0)).toArray 72 (0, 0)), .row KPt 102 w0.heap.size (.slice none 0 0) [], .row KPt 102 w0.heap.size (.slice none 0 0) [], .all (poolL w0.heap.size [])] ++ Rs) (by
    simp only [List.set_cons_zero, List.cons_append, List.nil_append]
    exact (List.perm_middle (l₁ := [_, _, _]) (l₂ := Rs)))
  exact Hp.closeE0 (p := refP (newR n) []) (refL w0.heap.size _ (newR n)) (.slice none 0 0, .slice none 0 0, []) (fun p hp => by simp [newR] at hp) k4
end Go.Proofs.Ytgflghnbpbiakaa.Su
namespace Go.Proofs.Ytgflghnbpbiakaa.Su
open Go.Proofs.Ytgflghnbpbiakaa.H hiding C_ints cellL cellN ev_copy ev_store_mid frozC i64k run_cut_all run_cut_arr run_cut_to setL set_self
open Go.RowKit Go.Proofs.Ytgflghnbpbiakaa.XH Go.Proofs.YtgflghnbpbiakaaW.PrintWords Go.Proofs.YtgflghnbpbiakaaW.PrintLast Go.Proofs.YtgflghnbpbiakaaW.PrintMore Go.Proofs.YtgflghnbpbiakaaXe Go.Proofs.YtgflghnbpbiakaaXs
set_option linter.unusedVariables false
set_option linter.unusedSimpArgs false
attribute [local go_sem ↓] Go.wp_at_zero Go.wp_at_succ
attribute [local go_sem] valUpon
open Go.Proofs.Ytgflghnbpbiakaa.D hiding c_len c_new c_write
def writeRE (R : RS) (n : Int) (b : List Int) : Int := if R.readyE n ≠ 0 then R.readyE n else if b.length ≠ 64 then 2 else if stepB R = false then 10 else 0
def writeR (R : RS) (n : Int) (b : List Int) (v : Value) : RS := if R.readyE n ≠ 0 then R else if b.length ≠ 64 then R else if stepB R = false then stepR R else { stepR R with soft := (stepR R).soft ++ [⟨n, v, b⟩] }
def putP : List Pt → Pt → List Pt
  | [], p => [p]
  | q :: l, p => if q.n = p.n then ⟨q.n, p.v, p.b⟩ :: l else q :: putP l p
theorem putP_at : ∀ (l : List Pt) (p : Pt) (j : Nat) (q : Pt), l[j]? = some q → q.n = p.n → (∀ k, k < j → ∀ q', l[k]? = some q' → q'.n ≠ p.n) → putP l p = l.set j ⟨q.n, p.v, p.b⟩
  | [], p, j, q, h, _, _ => by simp at h
  | x :: l, p, 0, q, h, e, _ => by
    simp at h
    subst h
    rw [putP, if_pos e]
    rfl
  | x :: l, p, j + 1, q, h, e, hn => by
    rw [putP, if_neg (hn 0 (by omega) x rfl), putP_at l p j q (by simpa using h) e (fun k hk q' hq => hn (k + 1) (by omega) q' (by simpa using hq))]
    rfl
theorem putP_end : ∀ (l : List Pt) (p : Pt), (∀ q ∈ l, q.n ≠ p.n) → putP l p = l ++ [p]
  | [], p, _ => rfl
  | x :: l, p, h => by
    rw [putP, if_neg (h x List.mem_cons_self), putP_end l p (fun q hq => h q (List.mem_cons_of_mem _ hq))]
    rfl
theorem putP_mem : ∀ (l : List Pt) (p q : Pt), q ∈ putP l p → q ∈ l ∨ (q.v = p.v ∧ q.b = p.b)
  | [], p, q, h => by
    rw [List.mem_singleton.1 h]
    exact .inr ⟨rfl, rfl⟩
  | x :: l, p, q, h => by
    rw [putP] at h
    split at h
    · rcases List.mem_cons.1 h with rfl | h
      · exact .inr ⟨rfl, rfl⟩
      · exact .inl (List.mem_cons_of_mem _ h)
    · rcases List.mem_cons.1 h with rfl | h
      · exact .inl List.mem_cons_self
      · rcases putP_mem l p q h with h1 | h1
        · exact .inl (List.mem_cons_of_mem _ h1)
        · exact .inr h1
theorem putP_len (l : List Pt) (p : Pt) : (putP l p).length ≤ l.length + 1 := by
  induction l with
  | nil => simp [putP]
  | cons x l ih =>
    rw [putP]
    split
    · simp
    · simp; omega
theorem ready_R (R : RS) (n : Int) : (R.out = true → R.readyE n = 10) ∧ (R.out = false → n < 0 ∨ R.many ≤ n → R.readyE n = 5) ∧ (R.out = false → ¬ (n < 0 ∨ R.many ≤ n) → R.readyE n = 0) := by
  unfold RS.readyE
  refine ⟨fun h => by rw [if_pos h], fun h h2 => by rw [if_neg (by rw [h]; decide), if_pos h2], fun h h2 => by rw [if_neg (by rw [h]; decide), if_neg h2]⟩
theorem stepR_same (R : RS) : (stepR R).firm = R.firm ∧ (stepR R).soft = R.soft ∧ (stepR R).many = R.many := by
  unfold stepR
  split <;> exact ⟨rfl, rfl, rfl⟩
set_option maxHeartbeats 8000000 in
set_option maxRecDepth 100000 in
theorem c_rwrite {w0 w : World} {Rs : List Res} (HP0 : Hp w0 w Rs) (i g : Nat) (R : RS) (ex : List Pt) (hi : Rs[i]? = some (rRef w0.heap.size g R ex)) (hls : R.soft.length ≤ 1000000) (n : Int) (A : Option Addr) (c : Nat) (b : List Int) (hbl : b.length ≤ 9223372036854775807) (hB : Rd (Kd.int .u8) w0 Rs i A b.length b) (hBy : Bytes b) :
    Calls Try.prog 34 #[.pointer (some ⟨g, 0, none⟩), .int .i64 n, .slice A b.length c] w fun e w' => e = .returned (.int .i64 (writeRE R n b)) ∧ ∃ v, Hp w0 w' (Rs.set i (rRef w0.heap.size g (writeR R n b v) ex)) := by
  have HH := Aside0.mk HP0
  have HI2 := Aside0.mk hi
  have HSELF := Aside0.mk (show Rs.set i (rRef w0.heap.size g R ex) = Rs from set_self hi)
  have HRY := Aside0.mk (ready_R R n)
  have HLS := Aside0.mk hls
  have HB := Aside0.mk hB
  have HBY := Aside0.mk hBy
  have HRB := Aside0.mk (stepR_same R)
  obtain ⟨v1, v2, ps, hm, HP1⟩ := Hp.openR HP0 i g R ex hi
  have hil : i < Rs.length := (List.getElem?_eq_some_iff.1 hi).1
  have HP := Aside0.mk HP1
  have HM := Aside0.mk hm
  have HI := Aside0.mk hil
  clear HP0 HP1 hm hil
  have hc0 : w.cell? ⟨g, 0, none⟩ = some (.int .i64 R.many) := blk_cell (HP.out.blk 0 rfl) 0
  have hc6 : w.cell? ⟨g, 6, none⟩ = some (.bool R.out) := blk_cell (HP.out.blk 0 rfl) 6
  have HWE : Aside0 (writeRE R n b = if R.readyE n ≠ 0 then R.readyE n else if b.length ≠ 64 then 2 else if stepB R = false then 10 else 0) := ⟨rfl⟩
  have HWR : Aside0 (∀ v, writeR R n b v = if R.readyE n ≠ 0 then R else if b.length ≠ 64 then R else if stepB R = false then stepR R else { stepR R with soft := (stepR R).soft ++ [⟨n, v, b⟩] }) := ⟨fun v => rfl⟩
  obtain ⟨o, ho⟩ : ∃ z, R.out = z := ⟨_, rfl⟩
  rw [ho] at hc6
  obtain ⟨m, hm⟩ : ∃ z, R.many = z := ⟨_, rfl⟩
  rw [hm] at hc0
  have HO := Aside0.mk ho
  have HMM := Aside0.mk hm
  obtain ⟨bl, hbl2⟩ : ∃ z, b.length = z := ⟨_, rfl⟩
  rw [hbl2] at HWE HWR hbl HB ⊢
  have HBL := Aside0.mk hbl2
  clear ho hm hbl2 hB hBy hls hi HP HM
  cases o with
  | true =>
    have HE := Aside0.mk (show writeRE R n b = 10 ∧ ∀ v, writeR R n b v = R from ⟨by rw [HWE.out, HRY.out.1 HO.out]; rfl, fun v => by rw [HWR.out, HRY.out.1 HO.out]; rfl⟩)
    go_enter Try.func34, Try.ntmps34
    go_wp2_with fail
    go_ret
    exact ⟨by rw [HE.out.1]; rfl, .nilFunc, by rw [HE.out.2, HSELF.out]; exact HH.out⟩
  | false =>
    by_cases c1 : n < 0
    · have d1 : decide (n < 0) = true := decide_eq_true c1
      have HE := Aside0.mk (show writeRE R n b = 5 ∧ ∀ v, writeR R n b v = R from ⟨by rw [HWE.out, HRY.out.2.1 HO.out (.inl c1)]; rfl, fun v => by rw [HWR.out, HRY.out.2.1 HO.out (.inl c1)]; rfl⟩)
      clear c1
      go_enter Try.func34, Try.ntmps34
      go_wp2_with fail
      go_ret
      exact ⟨by rw [HE.out.1]; rfl, .nilFunc, by rw [HE.out.2, HSELF.out]; exact HH.out⟩
    have d1 : decide (n < 0) = false := decide_eq_false c1
    by_cases c2 : m ≤ n
    · have d2 : decide (n ≥ m) = true := decide_eq_true c2
      have HE := Aside0.mk (show writeRE R n b = 5 ∧ ∀ v, writeR R n b v = R from ⟨by rw [HWE.out, HRY.out.2.1 HO.out (.inr (by rw [HMM.out]; exact c2))]; rfl, fun v => by rw [HWR.out, HRY.out.2.1 HO.out (.inr (by rw [HMM.out]; exact c2))]; rfl⟩)
      clear c1 c2
      go_enter Try.func34, Try.ntmps34
      go_wp2_with fail
      go_ret
      exact ⟨by rw [HE.out.1]; rfl, .nilFunc, by rw [HE.out.2, HSELF.out]; exact HH.out⟩
    have d2 : decide (n ≥ m) = false := decide_eq_false c2
    have HR0 := Aside0.mk (HRY.out.2.2 HO.out (by rw [HMM.out]; omega))
    by_cases c3 : bl = 64
    rotate_left
    · have d3 : ((bl : Int) != 64) = true := bne_iff_ne.2 (by omega)
      have HE := Aside0.mk (show writeRE R n b = 2 ∧ ∀ v, writeR R n b v = R from ⟨by rw [HWE.out, HR0.out, if_neg (by decide), if_pos c3], fun v => by rw [HWR.out, HR0.out, if_neg (by decide), if_pos c3]⟩)
      clear c1 c2 c3
      go_enter Try.func34, Try.ntmps34
      go_wp2_with fail
      go_ret
      exact ⟨by rw [HE.out.1]; rfl, .nilFunc, by rw [HE.out.2, HSELF.out]; exact HH.out⟩
    subst c3
    have d3 : ((((64 : Nat) : Int)) != 64) = false := by decide
    clear c1 c2
    go_enter Try.func34, Try.ntmps34
    go_wp2_with fail
    refine (c_rstep HH.out i g R ex HI2.out).mono ?_; rintro e w1 ⟨rfl, hpn⟩
    clear hc0 hc6 HH
    obtain ⟨sb, hsb⟩ : ∃ z, stepB R = z := ⟨_, rfl⟩
    rw [hsb] at HWE HWR ⊢
    clear hsb
    cases sb with
    | false =>
      have HE := Aside0.mk (show writeRE R n b = 10 ∧ ∀ v, writeR R n b v = stepR R from ⟨by rw [HWE.out, HR0.out]; rfl, fun v => by rw [HWR.out, HR0.out]; rfl⟩)
      go_wp2_with fail
      go_ret
      exact ⟨by rw [HE.out.1]; rfl, .nilFunc, by rw [HE.out.2]; exact hpn⟩
    | true =>
      have HE := Aside0.mk (show writeRE R n b = 0 ∧ ∀ v, writeR R n b v = { stepR R with soft := (stepR R).soft ++ [⟨n, v, b⟩] } from ⟨by rw [HWE.out, HR0.out]; rfl, fun v => by rw [HWR.out, HR0.out]; rfl⟩)
      obtain ⟨v1, v2, ps, hm, HP1⟩ := Hp.openR hpn i g (stepR R) ex (set_get _ HI.out)
      rw [List.set_set] at HP1
      have HSL := Aside0.mk (show (stepR R).soft.length ≤ 1000000 from by rw [HRB.out.2.1]; exact HLS.out)
      obtain ⟨T, hT⟩ : ∃ z, stepR R = z := ⟨_, rfl⟩
      rw [hT] at HE hm HP1 HSL
      have HM := Aside0.mk hm
      have HP := Aside0.mk HP1
      clear hpn hm HP1 hT
      obtain ⟨A2, c2, rfl⟩ := Kd.R_slice (HP.out.row 2 rfl)
      have HC := Aside0.mk (fun (w' : World) (h : Hp w0 w' (Rs.set i .none)) => HB.out w' .none h)
      go_wp2_with fail
      refine last_named (ds := [14]) (S := (fun w' => w'.cell? ⟨g, 2, none⟩ = some (.slice A2 T.soft.length c2))) (by kernel_rfl) (fun wd0 hwd0 => ?_)
      have HPn := Aside0.mk (HP.out.drewN 1)
      rw [← World.drew_is_drewN, hwd0] at HPn
      clear HP hwd0
      have HP := HPn
      clear HPn
      refine ⟨by (try dsimp only); first | exact blk_cell (HP.out.blk 0 rfl) 2 | exact blk_cell (HP.out.blk 1 rfl) 2 | exact blk_cell (HP.out.blk 2 rfl) 2, fun hHeld => ?_⟩
      refine wpAnyLast_take (i := 0) (oi := ({ dst := (some 31), op := (Op.move (Operand.tmp 0)), type := 58, pos := "ref.go:88", after := #[], guard := none } : Oper)) (v := ?_) rfl (by kernel_rfl) (by kernel_rfl) (by kernel_rfl) (by kernel_rfl) (by kernel_rfl) (fun _ _ _ h => h) (Or.inl ⟨by rfl, ?_⟩) hHeld ?_
      rotate_left
      · intro w_ hSw; (try dsimp only at hSw); go_simp; try (with_reducible rfl)
      try simp only [Act.put, List.setIfInBounds_toArray, List.set_cons_zero, List.set_cons_succ]
      refine wpAnyLast_take (i := 1) (oi := ({ dst := (some 32), op := (Op.move (Operand.tmp 0)), type := 58, pos := "ref.go:88", after := #[], guard := none } : Oper)) (v := ?_) rfl (by kernel_rfl) (by kernel_rfl) (by kernel_rfl) (by kernel_rfl) (by kernel_rfl) (fun _ _ _ h => h) (Or.inl ⟨by rfl, ?_⟩) hHeld ?_
      rotate_left
      · intro w_ hSw; (try dsimp only at hSw); go_simp; try (with_reducible rfl)
      try simp only [Act.put, List.setIfInBounds_toArray, List.set_cons_zero, List.set_cons_succ]
      refine wpAnyLast_take (i := 2) (oi := ({ dst := (some 33), op := (Op.nilCheck (Operand.tmp 32)), type := 0, pos := "ref.go:88", after := #[{ on := 1, ground := Ground.data }], guard := none } : Oper)) (v := ?_) rfl (by kernel_rfl) (by kernel_rfl) (by kernel_rfl) (by kernel_rfl) (by kernel_rfl) (fun _ _ _ h => h) (Or.inl ⟨by rfl, ?_⟩) hHeld ?_
      rotate_left
      · intro w_ hSw; (try dsimp only at hSw); go_simp; try (with_reducible rfl)
      try simp only [Act.put, List.setIfInBounds_toArray, List.set_cons_zero, List.set_cons_succ]
      refine wpAnyLast_take (i := 3) (oi := ({ dst := (some 34), op := (Op.fieldAddr 72 (Operand.tmp 33) 2), type := 0, pos := "ref.go:88", after := #[{ on := 2, ground := Ground.data }], guard := none } : Oper)) (v := ?_) rfl (by kernel_rfl) (by kernel_rfl) (by kernel_rfl) (by kernel_rfl) (by kernel_rfl) (fun _ _ _ h => h) (Or.inl ⟨by rfl, ?_⟩) hHeld ?_
      rotate_left
      · intro w_ hSw; (try dsimp only at hSw); go_simp; try (with_reducible rfl)
      try simp only [Act.put, List.setIfInBounds_toArray, List.set_cons_zero, List.set_cons_succ]
      refine wpAnyLast_take (i := 4) (oi := ({ dst := (some 35), op := (Op.load 70 (Operand.tmp 34)), type := 70, pos := "ref.go:88", after := #[{ on := 3, ground := Ground.data }], guard := none } : Oper)) (v := ?_) rfl (by kernel_rfl) (by kernel_rfl) (by kernel_rfl) (by kernel_rfl) (by kernel_rfl) (fun _ _ _ h => h) (Or.inl ⟨by rfl, ?_⟩) hHeld ?_
      rotate_left
      · intro w_ hSw; (try dsimp only at hSw); go_simp; try (with_reducible rfl)
      try simp only [Act.put, List.setIfInBounds_toArray, List.set_cons_zero, List.set_cons_succ]
      refine wpAnyLast_take (i := 5) (oi := ({ dst := (some 36), op := (Op.move (Operand.tmp 1)), type := 3, pos := "ref.go:88", after := #[], guard := none } : Oper)) (v := ?_) rfl (by kernel_rfl) (by kernel_rfl) (by kernel_rfl) (by kernel_rfl) (by kernel_rfl) (fun _ _ _ h => h) (Or.inl ⟨by rfl, ?_⟩) hHeld ?_
      rotate_left
      · intro w_ hSw; (try dsimp only at hSw); go_simp; try (with_reducible rfl)
      try simp only [Act.put, List.setIfInBounds_toArray, List.set_cons_zero, List.set_cons_succ]
      refine wpAnyLast_take (i := 7) (oi := ({ dst := (some 38), op := (Op.move (Operand.tmp 2)), type := 26, pos := "ref.go:88", after := #[], guard := none } : Oper)) (v := ?_) rfl (by kernel_rfl) (by kernel_rfl) (by kernel_rfl) (by kernel_rfl) (by kernel_rfl) (fun _ _ _ h => h) (Or.inl ⟨by rfl, ?_⟩) hHeld ?_
      rotate_left
      · intro w_ hSw; (try dsimp only at hSw); go_simp; try (with_reducible rfl)
      try simp only [Act.put, List.setIfInBounds_toArray, List.set_cons_zero, List.set_cons_succ]
      refine wpAnyLast_ready (rs := [6]) (by kernel_rfl) (by simp) ?_
      refine AllReadyL.cons (o := ({ dst := (some 37), op := (Op.buildSlice 26 0 #[]), type := 26, pos := "ref.go:88", after := #[], guard := none } : Oper)) rfl (by decide) (fun K hK => ?_) AllReadyL.nil
      refine st_run (by rfl) (w1 := wd0.alloc (.cells #[] 5 (0, 0))) (v := .slice (some ⟨wd0.heap.size, 0, none⟩) 0 0) ?hr6 ?_; (case hr6 => first | (go_simp; done) | (go_simp; rfl)); have HPn := Aside0.mk (show Hp w0 (wd0.alloc (.cells #[] 5 (0, 0))) (.row (Kd.int .u8) 5 w0.heap.size (.slice (some ⟨wd0.heap.size, 0, none⟩) 0 0) [] :: _) from HP.out.lit 5 (d := Kd.int .u8) (xs := []) (inner := []) (reps_ints .u8 _ _ []) (by decide)); clear HP; have HP := HPn; clear HPn; obtain ⟨w6, hw6⟩ : ∃ z, wd0.alloc (.cells #[] 5 (0, 0)) = z := ⟨_, rfl⟩; obtain ⟨A0, hA0⟩ : ∃ z : Option Addr, some ⟨wd0.heap.size, 0, none⟩ = z := ⟨_, rfl⟩; rw [hw6, hA0] at HP; rw [hw6, hA0]; clear hw6 hA0
      clear hHeld
      refine hK.out _ _ ?_ (fun hHeld => ?_)
      · (try dsimp only); first | exact blk_cell (HP.out.blk 0 rfl) 2 | exact blk_cell (HP.out.blk 1 rfl) 2 | exact blk_cell (HP.out.blk 2 rfl) 2
      clear hK K
      try simp only [Act.put, List.setIfInBounds_toArray, List.set_cons_zero, List.set_cons_succ]
      refine wpAnyLast_ready (rs := [8]) (by kernel_rfl) (by simp) ?_
      refine AllReadyL.cons (o := ({ dst := (some 39), op := (Op.call { callee := (Callee.builtin Builtin.append), args := #[(Operand.tmp 37), (Operand.tmp 38)], argTypes := #[26, 26] }), type := 26, pos := "ref.go:88", after := #[{ on := 6, ground := Ground.data }, { on := 7, ground := Ground.data }], guard := none } : Oper)) rfl (by decide) (fun K hK => ?_) AllReadyL.nil
      refine st_append (plain_int .u8) HP.out 0 (by rfl) (.tmp 37) (.tmp 38) 26 5 (.int .u8 0) 1 (by rfl) Try.underlying26 info5 rfl (by decide) (by decide) (.slice A0 0 0) [] b A 64 c (by rfl) (by rfl) rfl (HC.out _ (Hp.dropN [_, _, _, _, _] HP.out)) (by decide) ?_; intro v_n wq hpn; clear HP; have HP := Aside0.mk hpn; clear hpn; rw [List.nil_append] at HP; obtain ⟨A_n, c_n, rfl⟩ := Kd.R_slice (HP.out.row 0 rfl); rw [HBL.out] at HP; (try rw [HBL.out]); (try rw [List.set_cons_zero] at HP)
      clear hHeld
      refine hK.out _ _ ?_ (fun hHeld => ?_)
      · (try dsimp only); first | exact blk_cell (HP.out.blk 0 rfl) 2 | exact blk_cell (HP.out.blk 1 rfl) 2 | exact blk_cell (HP.out.blk 2 rfl) 2
      clear hK K
      try simp only [Act.put, List.setIfInBounds_toArray, List.set_cons_zero, List.set_cons_succ]
      refine wpAnyLast_take (i := 9) (oi := ({ dst := (some 40), op := (Op.build 102 #[(0, (Operand.tmp 36)), (1, (Operand.tmp 39))]), type := 102, pos := "ref.go:88", after := #[{ on := 5, ground := Ground.data }, { on := 8, ground := Ground.data }], guard := none } : Oper)) (v := ?_) rfl (by kernel_rfl) (by kernel_rfl) (by kernel_rfl) (by kernel_rfl) (by kernel_rfl) (fun _ _ _ h => h) (Or.inl ⟨by rfl, ?_⟩) hHeld ?_
      rotate_left
      · intro w_ hSw; (try dsimp only at hSw); go_simp; try (with_reducible rfl)
      try simp only [Act.put, List.setIfInBounds_toArray, List.set_cons_zero, List.set_cons_succ]
      refine wpAnyLast_ready (rs := [10]) (by kernel_rfl) (by simp) ?_
      refine AllReadyL.cons (o := ({ dst := (some 41), op := (Op.buildSlice 70 1 #[(0, (Operand.tmp 40))]), type := 70, pos := "ref.go:88", after := #[{ on := 9, ground := Ground.data }], guard := none } : Oper)) rfl (by decide) (fun K hK => ?_) AllReadyL.nil
      go_simp; have HPn := Aside0.mk (HP.out.alloc (.cells #[.int .i64 n, .slice A_n 64 c_n] 102 (0, 0))); clear HP; have HP := HPn; clear HPn; obtain ⟨wx, hwx⟩ : ∃ z, wq.alloc (.cells #[.int .i64 n, .slice A_n 64 c_n] 102) = z := ⟨_, rfl⟩; obtain ⟨gx, hgx⟩ : ∃ z, wq.heap.size = z := ⟨_, rfl⟩; rw [show wq.alloc (.cells #[.int .i64 n, .slice A_n 64 c_n] 102 (0, 0)) = wx from hwx, hgx] at HP; rw [show wq.alloc (.cells #[.int .i64 n, .slice A_n 64 c_n] 102 (0, 0)) = wx from hwx, hgx]; clear hwx hgx
      clear hHeld
      refine hK.out _ _ ?_ (fun hHeld => ?_)
      · (try dsimp only); first | exact blk_cell (HP.out.blk 0 rfl) 2 | exact blk_cell (HP.out.blk 1 rfl) 2 | exact blk_cell (HP.out.blk 2 rfl) 2
      clear hK K
      try simp only [Act.put, List.setIfInBounds_toArray, List.set_cons_zero, List.set_cons_succ]
      refine wpAnyLast_ready (rs := [11]) (by kernel_rfl) (by simp) ?_
      refine AllReadyL.cons (o := ({ dst := (some 42), op := (Op.call { callee := (Callee.builtin Builtin.append), args := #[(Operand.tmp 35), (Operand.tmp 41)], argTypes := #[70, 70] }), type := 70, pos := "ref.go:88", after := #[{ on := 4, ground := Ground.data }, { on := 10, ground := Ground.data }, { on := 8, ground := Ground.chain }], guard := none } : Oper)) rfl (by decide) (fun K hK => ?_) AllReadyL.nil
      refine st_append plain_KPt HP.out 4 (by rfl) (.tmp 35) (.tmp 41) 70 102 _ 32 (by rfl) Try.underlying70 infoKPt rfl (by decide) (by decide) (.slice A2 T.soft.length c2) T.soft [⟨n, .slice A_n 64 c_n, b⟩] (some ⟨gx, 0, none⟩) 1 1 (by rfl) (by rfl) rfl (C_blk1 KPt (HP.out.blk 0 rfl) ⟨rfl, rfl⟩) (by have := HSL.out; omega) ?_; intro v_m wz hpn; clear HP; have HP := Aside0.mk hpn; clear hpn; obtain ⟨A_m, c_m, rfl⟩ := Kd.R_slice (HP.out.row 4 rfl); simp only [List.length_append, List.length_cons, List.length_nil, Nat.zero_add] at HP; (try simp only [List.length_append, List.length_cons, List.length_nil, Nat.zero_add])
      clear hHeld
      refine hK.out _ _ ?_ (fun hHeld => ?_)
      · (try dsimp only); first | exact blk_cell (HP.out.blk 0 rfl) 2 | exact blk_cell (HP.out.blk 1 rfl) 2 | exact blk_cell (HP.out.blk 2 rfl) 2
      clear hK K
      try simp only [Act.put, List.setIfInBounds_toArray, List.set_cons_zero, List.set_cons_succ]
      refine wpAnyLast_take (i := 12) (oi := ({ dst := (some 43), op := (Op.nilCheck (Operand.tmp 31)), type := 0, pos := "ref.go:88", after := #[{ on := 0, ground := Ground.data }, { on := 0, ground := Ground.phase }, { on := 1, ground := Ground.phase }, { on := 2, ground := Ground.phase }, { on := 3, ground := Ground.phase }, { on := 4, ground := Ground.phase }, { on := 5, ground := Ground.phase }, { on := 6, ground := Ground.phase }, { on := 7, ground := Ground.phase }, { on := 8, ground := Ground.phase }, { on := 9, ground := Ground.phase }, { on := 10, ground := Ground.phase }, { on := 11, ground := Ground.phase }], guard := none } : Oper)) (v := ?_) rfl (by kernel_rfl) (by kernel_rfl) (by kernel_rfl) (by kernel_rfl) (by kernel_rfl) (fun _ _ _ h => h) (Or.inl ⟨by rfl, ?_⟩) hHeld ?_
      rotate_left
      · intro w_ hSw; (try dsimp only at hSw); go_simp; try (with_reducible rfl)
      try simp only [Act.put, List.setIfInBounds_toArray, List.set_cons_zero, List.set_cons_succ]
      refine wpAnyLast_take (i := 13) (oi := ({ dst := (some 44), op := (Op.fieldAddr 72 (Operand.tmp 43) 2), type := 0, pos := "ref.go:88", after := #[{ on := 12, ground := Ground.data }, { on := 0, ground := Ground.phase }, { on := 1, ground := Ground.phase }, { on := 2, ground := Ground.phase }, { on := 3, ground := Ground.phase }, { on := 4, ground := Ground.phase }, { on := 5, ground := Ground.phase }, { on := 6, ground := Ground.phase }, { on := 7, ground := Ground.phase }, { on := 8, ground := Ground.phase }, { on := 9, ground := Ground.phase }, { on := 10, ground := Ground.phase }, { on := 11, ground := Ground.phase }], guard := none } : Oper)) (v := ?_) rfl (by kernel_rfl) (by kernel_rfl) (by kernel_rfl) (by kernel_rfl) (by kernel_rfl) (fun _ _ _ h => h) (Or.inl ⟨by rfl, ?_⟩) hHeld ?_
      rotate_left
      · intro w_ hSw; (try dsimp only at hSw); go_simp; try (with_reducible rfl)
      try simp only [Act.put, List.setIfInBounds_toArray, List.set_cons_zero, List.set_cons_succ]
      refine wpAnyLast_ready (rs := [14]) (by kernel_rfl) (by simp) ?_
      refine AllReadyL.cons_last (o := ({ dst := none, op := (Op.store 70 (Operand.tmp 44) (Operand.tmp 42)), type := 0, pos := "ref.go:88", after := #[{ on := 13, ground := Ground.data }, { on := 11, ground := Ground.data }, { on := 11, ground := Ground.chain }, { on := 0, ground := Ground.phase }, { on := 1, ground := Ground.phase }, { on := 2, ground := Ground.phase }, { on := 3, ground := Ground.phase }, { on := 4, ground := Ground.phase }, { on := 5, ground := Ground.phase }, { on := 6, ground := Ground.phase }, { on := 7, ground := Ground.phase }, { on := 8, ground := Ground.phase }, { on := 9, ground := Ground.phase }, { on := 10, ground := Ground.phase }, { on := 11, ground := Ground.phase }], guard := none } : Oper)) rfl (by decide) (fun K hK => ?_) AllReadyL.nil
      have hcS := blk_cell (HP.out.blk 2 rfl) 2; have hfS := blk_frozen (HP.out.blk 2 rfl) 2; go_simp; have HPn := Aside0.mk (HP.out.setCell 2 rfl 2 (.slice A_m (T.soft.length + 1) c_m)); clear HP hcS hfS; have HP := HPn; clear HPn
      clear hHeld
      refine hK.out _ _ ?_
      clear hK K
      try simp only [Act.put, List.setIfInBounds_toArray, List.set_cons_zero, List.set_cons_succ]
      refine wpAnyLast_done (by kernel_rfl) ?_ _
      have HPF := Aside0.mk (show Hp w0 _ (Rs.set i (rRef w0.heap.size g { T with soft := T.soft ++ [⟨n, .slice A_n 64 c_n, b⟩] } ex)) from by
        have h1 := HP.out.drop1
        have h2 := Hp.join h1 3 rfl
        exact Hp.closeR { T with soft := T.soft ++ [⟨n, .slice A_n 64 c_n, b⟩] } ex (ps := (.slice A_n 64 c_n, b) :: ps) (fun p hp => by
          have hp2 : p ∈ T.firm ++ (T.soft ++ ex) ∨ p = ⟨n, .slice A_n 64 c_n, b⟩ := by
            simp only [List.mem_append, List.mem_singleton] at hp ⊢
            rcases hp with h | (h | h) | h
            · exact .inl (.inl h)
            · exact .inl (.inr (.inl h))
            · exact .inr h
            · exact .inl (.inr (.inr h))
          rcases hp2 with h | rfl
          · obtain ⟨k1, k2, k3⟩ := HM.out p h
            exact ⟨List.mem_cons_of_mem _ k1, k2, k3⟩
          · exact ⟨List.mem_cons_self, HBL.out, HBY.out⟩) HI.out h2)
      clear HP
      go_wp2_with fail
      go_ret
      exact ⟨by rw [HE.out.1]; rfl, .slice A_n 64 c_n, by rw [HE.out.2]; exact HPF.out⟩
end Go.Proofs.Ytgflghnbpbiakaa.Su
