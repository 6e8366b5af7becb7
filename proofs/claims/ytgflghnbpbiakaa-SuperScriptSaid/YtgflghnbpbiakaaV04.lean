import Derived.Test.YtgflghnbpbiakaaV03
import Derived.Test.YtgflghnbpbiakaaV02
import Derived.Test.YtgflghnbpbiakaaV00
namespace Go.Proofs.Ytgflghnbpbiakaa.H
open Go.RowKit Go.Proofs.Ytgflghnbpbiakaa.XH Go.Proofs.YtgflghnbpbiakaaW.PrintWords Go.Proofs.YtgflghnbpbiakaaW.PrintLast Go.Proofs.YtgflghnbpbiakaaW.PrintMore Go.Proofs.YtgflghnbpbiakaaXe Go.Proofs.YtgflghnbpbiakaaXs
set_option linter.unusedVariables false
set_option linter.unusedSimpArgs false
attribute [local go_sem ↓] Go.wp_at_zero Go.wp_at_succ
attribute [local go_sem] valUpon
set_option maxRecDepth 100000 in
theorem run_make8 (n : Nat) (hn : n ≤ 281474976710656) (w : World) : (Instr.makeSlice 26 (.int .i64 (n : Int)) (.int .i64 (n : Int))).run Try.prog w = .ok (.slice (some ⟨w.heap.size, 0, none⟩) n n) (w.alloc (.cells (u8s (List.replicate n 0)).toArray 5)) := by
  obtain ⟨i, hi, hz, hs, hb⟩ := info_parts info5
  have h := run_make (P := Try.prog) w 26 5 i _ Try.underlying26 hi hz .i64 .i64 n n (by omega) (by omega) (by rw [hb]; omega) (by omega)
  rw [Int.toNat_natCast, hs] at h
  rw [h]
  congr 3
  apply Array.ext'
  simp [madeCells, Value.cells, u8s, Nat.mod_one, List.map_const']
theorem C_blkW {w : World} {g : Nat} {l : List Int} {t : TypeId} {k : IntKind} (hg : w.heap[g]? = some (.cells (l.map (Value.int k)).toArray t (0, 0))) (hl : l.length ≤ 9223372036854775807) : Kd.C (Kd.int k) w (some ⟨g, 0, none⟩) l.length l := by
  refine C_ints hl fun j x hj => ?_
  rw [add_at, cell_of_row w g _ _ _ _ hg]
  simp [hj]
end Go.Proofs.Ytgflghnbpbiakaa.H
namespace Go.Proofs.Ytgflghnbpbiakaa.H
open Go.RowKit Go.Proofs.Ytgflghnbpbiakaa.XH Go.Proofs.YtgflghnbpbiakaaW.PrintWords Go.Proofs.YtgflghnbpbiakaaW.PrintLast Go.Proofs.YtgflghnbpbiakaaW.PrintMore Go.Proofs.YtgflghnbpbiakaaXe Go.Proofs.YtgflghnbpbiakaaXs
set_option linter.unusedVariables false
set_option linter.unusedSimpArgs false
attribute [local go_sem ↓] Go.wp_at_zero Go.wp_at_succ
attribute [local go_sem] valUpon
def rdL (xs : List (List Int)) (i : Int) : List Int := xs.getD i.toNat ([] : List Int)
theorem at_sl {w : World} {e : Nat} {A : Option Addr} {n : Nat} {xs : List (List Int)} (h : Kd.C (Kd.slice e (Kd.int .u8)) w A n xs) (i : Int) (h0 : 0 ≤ i) (h1 : i < n) : ∃ ad A0 c0, A = some ad ∧ w.cell? (ad.add i.toNat) = some (.slice A0 (rdL xs i).length c0) ∧ (rdL xs i).length ≤ c0 ∧ (Kd.int .u8).C w A0 (rdL xs i).length (rdL xs i) := by
  obtain ⟨ad, c, e, _, hK, hc0⟩ := Kd.C_get h ([] : List Int) i h0 h1
  have hc : ∀ j u, c[j]? = some u → w.cell? (ad.add (i.toNat * 1 + j)) = some u := hc0
  obtain ⟨A0, c0, rfl, l0, g0⟩ := hK
  exact ⟨ad, A0, c0, e, by have hq := hc 0 _ rfl; rwa [Nat.mul_one, Nat.add_zero] at hq, l0, g0⟩
theorem C_sls {w : World} {e g : Nat} {t : TypeId} {vs : List Value} {ls : List (List Int)} (h : w.heap[g]? = some (.cells vs.toArray t (0, 0))) (hl : vs.length = ls.length) (hm : ls.length ≤ 9223372036854775807)
    (hv : ∀ (j : Nat) (v : Value) (b : List Int), vs[j]? = some v → ls[j]? = some b → ∃ A c, v = .slice A b.length c ∧ b.length ≤ c ∧ Kd.C (Kd.int .u8) w A b.length b) : Kd.C (Kd.slice e (Kd.int .u8)) w (some ⟨g, 0, none⟩) ls.length ls := by
  refine ⟨rfl, hm, fun _ => ⟨_, rfl, fun j b hj => ?_⟩⟩
  have hjl : j < ls.length := (List.getElem?_eq_some_iff.1 hj).1
  obtain ⟨A, c, e1, e2, e3⟩ := hv j vs[j] b (List.getElem?_eq_getElem (by omega)) hj
  refine ⟨[.slice A b.length c], rfl, ⟨A, c, rfl, e2, e3⟩, fun i u hu => ?_⟩
  cases i with
  | zero =>
    simp at hu
    subst hu
    have h2 : (Kd.slice e (Kd.int .u8)).sz = 1 := rfl
    rw [h2, Nat.mul_one, Nat.add_zero, add_at, Nat.zero_add, cell_of_row w g _ _ _ _ h, ← e1]
    simp only [List.getElem?_toArray]
    exact List.getElem?_eq_getElem (by omega)
  | succ i => simp at hu
theorem take_flatL (l : List (List Int)) (i : Nat) (h : i < l.length) : (l.take (i + 1)).flatten = (l.take i).flatten ++ rdL l (i : Int) := by
  rw [List.take_succ_eq_append_getElem h, List.flatten_append]
  simp [rdL, h]
theorem flat_take_le (l : List (List Int)) (i : Nat) : (l.take i).flatten.length ≤ l.flatten.length := by
  conv => rhs; rw [← List.take_append_drop i l, List.flatten_append, List.length_append]
  omega
end Go.Proofs.Ytgflghnbpbiakaa.H
namespace Go.Proofs.Ytgflghnbpbiakaa.H
open Go.RowKit Go.Proofs.Ytgflghnbpbiakaa.XH Go.Proofs.YtgflghnbpbiakaaW.PrintWords Go.Proofs.YtgflghnbpbiakaaW.PrintLast Go.Proofs.YtgflghnbpbiakaaW.PrintMore Go.Proofs.YtgflghnbpbiakaaXe Go.Proofs.YtgflghnbpbiakaaXs
set_option linter.unusedVariables false
set_option linter.unusedSimpArgs false
attribute [local go_sem ↓] Go.wp_at_zero Go.wp_at_succ
attribute [local go_sem] valUpon
set_option maxRecDepth 100000
section
variable {w0 W : World} {Rs : List Res}
theorem cells_of_C {A : Option Addr} {m : Nat} {ys : List Int} {ad : Addr} (hA : A = some ad) (hC : Kd.C (Kd.int .u8) W A m ys) : ∀ j v, (u8s ys)[j]? = some v → W.cell? (ad.add j) = some v := by
  intro j v hj
  have hm := hC.1
  have hjl : j < ys.length := by have := (List.getElem?_eq_some_iff.1 hj).1; rwa [u8s_len] at this
  obtain ⟨ak, e, hx⟩ := Kd.at_int hC (j : Int) (by omega) (by omega)
  rw [hA] at e
  cases e
  rw [Int.toNat_natCast] at hx
  rw [hx, ← hj]
  simp [u8s, Go.Proofs.YtgflghnbpbiakaaW.PrintWords.rd, hjl]
theorem u8s_app (a b : List Int) : u8s (a ++ b) = u8s a ++ u8s b := by simp [u8s]
theorem u8s_take (a : List Int) (n : Nat) : u8s (a.take n) = (u8s a).take n := by simp [u8s]
theorem u8s_drop (a : List Int) (n : Nat) : u8s (a.drop n) = (u8s a).drop n := by simp [u8s]
theorem zeroU (k : Nat) : Builtin.zeroCells (Value.int .u8 0).cells k = (u8s (List.replicate k 0)).toArray := by
  apply Array.ext'
  simp [Builtin.zeroCells, Value.cells, u8s, Nat.mod_one, List.map_const']
theorem Hp.setNew (HP : Hp w0 W Rs) (i : Nat) {R : Res} (hi : Rs[i]? = some R) {w1 : World} (hb : Below W.heap.size W w1) {g : Nat} {o : Obj} (hg : w1.heap[g]? = some o) (hge : W.heap.size ≤ g) : Hp w0 w1 (Rs.set i (.blk g o)) := by
  obtain ⟨F, h1, h2, _, h3⟩ := HP.upd i hi
  exact h3 w1 (.blk g o) (fun k => k = g) (below_then HP.below HP.below.size hb) ⟨hg, fun _ => Iff.rfl⟩ (fun k hk => .inr (by omega)) (fun k hk _ => hb.block k hk)
theorem drewA_below (o : Obj) : Below W.heap.size W (W.drew.alloc o) := below_alloc (Below.refl _ _).drew o
/-- a row is appended to a block's first n -/
theorem app8 (HP : Hp w0 W Rs) (i g n : Nat) (l ys : List Int) (hi : Rs[i]? = some (.blk g (.cells (u8s l).toArray 5 (0, 0)))) (hn : n ≤ l.length) (A : Option Addr) (m c : Nat) (hC : Kd.C (Kd.int .u8) W A m ys) (hb : n + m ≤ 100000000000000) (ty : TypeId) :
    ∃ w1 g1 l1, (Builtin.append_ #[26, 26] ty #[.slice (some ⟨g, 0, none⟩) n l.length, .slice A m c]).run Try.prog W = .ok (.slice (some ⟨g1, 0, none⟩) (n + m) l1.length) w1 ∧ n + m ≤ l1.length ∧ l1.take (n + m) = l.take n ++ ys ∧ (l.length ≤ 9223372036854775807 → l1.length ≤ 9223372036854775807) ∧ Hp w0 w1 (Rs.set i (.blk g1 (.cells (u8s l1).toArray 5 (0, 0)))) := by
  have hm : ys.length = m := hC.1
  have hg := HP.blk i hi
  obtain ⟨inf, hi1, hiz, his, hib⟩ := info_parts info5
  by_cases h0 : m = 0
  · subst h0
    obtain rfl : ys = [] := List.eq_nil_of_length_eq_zero hm
    refine ⟨W, g, l, ?_, by omega, by simp, id, by rw [set_self hi]; exact HP⟩
    rcases A with _ | ad
    · simp [Builtin.append_, run_underlying Try.underlying26, sizeOf, typeInfo, hi1, Builtin.lenOf, Builtin.firstCells, hn, storeCells]
    · have h1 := run_append_room_cells (P := Try.prog) W 26 ty 5 inf Try.underlying26 hi1 g 0 n l.length ad 0 c [] (by simp) (by simp) (by simp) (by omega) (by simp) (by simp)
      exact h1
  obtain ⟨ad, hA⟩ : ∃ ad, A = some ad := by
    obtain ⟨ad, e, _⟩ := Kd.at_int hC 0 (by omega) (by omega)
    exact ⟨ad, e⟩
  have hnews := cells_of_C hA hC
  subst hA
  have hlen : (u8s ys).length = m * inf.size := by rw [u8s_len, his]; omega
  have h1v : ∀ u ∈ u8s ys, u.oneCell' = true := fun u hu => by simp [u8s] at hu; obtain ⟨x, _, rfl⟩ := hu; rfl
  by_cases hr : n + m ≤ l.length
  · have hrun := run_append_room_cells (P := Try.prog) W 26 ty 5 inf Try.underlying26 hi1 g 0 n l.length ad m c (u8s ys) hlen hnews h1v hr (fun j hj => by rw [cell_of_row W g _ _ _ _ hg]; rw [u8s_len] at hj; simp [u8s, his]; omega) (fun j hj => frozC hg _)
    rw [his, Nat.zero_add, Nat.mul_one] at hrun
    have hfit : n + (u8s ys).length ≤ (u8s l).toArray.size := by rw [List.size_toArray, u8s_len, u8s_len]; omega
    obtain ⟨cur', h2, h3, h4⟩ := setCells_row (u8s ys) n W (u8s l).toArray hg hfit
    obtain ⟨k1, k2, k3, k4⟩ := setCells_same g (u8s ys) n W
    have hl1 : (l.take n ++ ys ++ l.drop (n + ys.length)).length = l.length := by simp; omega
    refine ⟨_, g, l.take n ++ ys ++ l.drop (n + ys.length), by rw [hl1]; exact hrun, by omega, ?_, fun h => by omega, ?_⟩
    · rw [List.take_left' (by simp; omega)]
    · refine HP.setB i hi ⟨k1, k2, k3, Nat.le_of_eq k4.symm, fun k _ hk => setCells_far (u8s ys) n k fun e => hk (by rw [e])⟩ ?_
      rw [h2, u8s_app, u8s_app, u8s_take, u8s_drop]
      congr 2
      apply Array.ext'
      rw [h4, u8s_len]
  · have hcells : ∀ j v, ((u8s l).take n)[j]? = some v → W.cell? ((⟨g, 0, none⟩ : Addr).add j) = some v := fun j v hj => by
      rw [show (⟨g, 0, none⟩ : Addr).add j = ⟨g, j, none⟩ from by rw [add_at, Nat.zero_add], cell_of_row W g _ _ _ _ hg]
      rw [List.getElem?_take] at hj
      split at hj
      · simpa using hj
      · cases hj
    have hrun := run_append_grow (P := Try.prog) W 26 ty 5 inf (.int .u8 0) Try.underlying26 hi1 hiz ⟨g, 0, none⟩ n l.length ((u8s l).take n) (by rw [List.length_take, u8s_len, his]; omega) hcells ad m c (u8s ys) hlen hnews (by omega) (by omega) (growslice_fits (by omega) (by rw [hib]; omega))
    have hge := grownCap_ge W (n + m) l.length 5
    have hle := grownCap_le_maxLen W (n + m) l.length 5 (by simp only [maxLen]; omega)
    obtain ⟨cp, hcp⟩ : ∃ z, grownCap W (n + m) l.length 5 = z := ⟨_, rfl⟩
    rw [hcp] at hrun hge hle
    have hl1 : (l.take n ++ ys ++ List.replicate (cp - (n + m)) 0).length = cp := by simp; omega
    have hcs : (u8s l).take n ++ u8s ys ++ u8s (List.replicate (cp - (n + m)) 0) = u8s (l.take n ++ ys ++ List.replicate (cp - (n + m)) 0) := by rw [u8s_app, u8s_app, u8s_take]
    rw [zeroU, List.append_toArray, List.append_toArray, hcs] at hrun
    refine ⟨_, W.heap.size, l.take n ++ ys ++ List.replicate (cp - (n + m)) 0, by rw [hl1]; exact hrun, by omega, ?_, fun _ => by rw [hl1]; simp only [maxLen] at hle; omega, ?_⟩
    · rw [List.take_left' (by simp; omega)]
    · exact Hp.setNew HP i hi (drewA_below _) (blk_new W.drew _) (Nat.le_refl _)
end
end Go.Proofs.Ytgflghnbpbiakaa.H
namespace Go.Proofs.Ytgflghnbpbiakaa.H
open Go.RowKit Go.Proofs.Ytgflghnbpbiakaa.XH Go.Proofs.YtgflghnbpbiakaaW.PrintWords Go.Proofs.YtgflghnbpbiakaaW.PrintLast Go.Proofs.YtgflghnbpbiakaaW.PrintMore Go.Proofs.YtgflghnbpbiakaaXe Go.Proofs.YtgflghnbpbiakaaXs
set_option linter.unusedVariables false
set_option linter.unusedSimpArgs false
attribute [local go_sem ↓] Go.wp_at_zero Go.wp_at_succ
attribute [local go_sem] valUpon
set_option maxRecDepth 100000
section
variable {w0 W : World} {Rs : List Res}
theorem zeroUL (a b : Nat) : u8s (List.replicate a 0) ++ u8s (List.replicate b 0) = u8s (List.replicate (a + b) 0) := by simp [u8s]
theorem zeroU' (k : Nat) : Builtin.zeroCells #[Value.int .u8 0] k = (u8s (List.replicate k 0)).toArray := zeroU k
theorem runs0 (W : World) (A : Option Addr) (xs : List Int) (cap m : Nat) (ty : TypeId) (kx : IntKind) (hcap : cap < xs.length + m) (hm : m ≠ 0) (hb : xs.length + m ≤ 100000000000000) (hfo : (Builtin.firstCells 1 xs.length (.slice A xs.length cap)).run Try.prog W.drew = .ok (u8s xs).toArray W.drew) :
    (Builtin.append_ #[26, 3] ty #[.slice A xs.length cap, .int kx m]).run Try.prog W = .ok (.slice (some ⟨W.heap.size, 0, none⟩) (xs.length + m) (grownCap W (xs.length + m) cap 5)) (W.drew.alloc (.cells (u8s (xs ++ List.replicate m 0 ++ List.replicate (grownCap W (xs.length + m) cap 5 - (xs.length + m)) 0)).toArray 5)) := by
  obtain ⟨i, hi, hz, hs, hbb⟩ := info_parts info5
  have hn : ¬ (xs.length + m ≤ cap) := by omega
  have h63' : ¬ (9223372036854775807 < ((xs.length : Int) + (m : Int))) := by omega
  have hfit := growslice_fits (need := xs.length + m) (old := cap) (bytes := 1) hcap (by omega)
  have h48' : ¬ (281474976710656 < Builtin.nextslicecap (xs.length + m) cap * i.bytes) := by rw [hbb]; omega
  have hw : IntKind.i64.wrap (m : Int) = m := by rw [IntKind.wrap_i64]; omega
  have hneg : ¬ ((m : Int) < 0) := by omega
  have hbig : ¬ (281474976710656 < (m : Int) * (i.bytes : Int)) := by rw [hbb]; omega
  have hmz : ¬ (m * i.size = 0) := by rw [hs]; omega
  rw [← hs] at hfo
  simp [Builtin.append_, run_underlying Try.underlying26, run_underlying Try.underlying3, sizeOf, typeInfo, zeroValue, hi, hz, asInt, asIntOf, hw, hneg, hbig, hn, h63', h48', Question.forced, hfo, newRow, grownCap, hmz, zeroU, zeroU', u8s_app, List.append_assoc]
  rw [← zeroUL]
/-- noughts made -/
theorem zerosN (W : World) (m : Nat) (h1 : 1 ≤ m) (h2 : m ≤ 100000000000000) (ty : TypeId) (kx : IntKind) :
    ∃ cp, (Builtin.append_ #[26, 3] ty #[.slice none 0 0, .int kx m]).run Try.prog W = .ok (.slice (some ⟨W.heap.size, 0, none⟩) m cp) (W.drew.alloc (.cells (u8s (List.replicate cp 0)).toArray 5)) ∧ m ≤ cp ∧ cp ≤ 9223372036854775807 := by
  have h := runs0 W none [] 0 m ty kx (by simp; omega) (by omega) (by simp; omega) (by simp [Builtin.firstCells, u8s])
  have hge := grownCap_ge W m 0 5
  have hle := grownCap_le_maxLen W m 0 5 (by simp only [maxLen]; omega)
  simp only [List.length_nil, Nat.zero_add, List.nil_append] at h
  obtain ⟨cp, hcp⟩ : ∃ z, grownCap W m 0 5 = z := ⟨_, rfl⟩
  rw [hcp] at h hge hle
  rw [u8s_app, zeroUL, show m + (cp - m) = cp by omega] at h
  exact ⟨cp, h, hge, by simp only [maxLen] at hle; omega⟩
end
end Go.Proofs.Ytgflghnbpbiakaa.H
namespace Go.Proofs.Ytgflghnbpbiakaa.H
open Go.RowKit Go.Proofs.Ytgflghnbpbiakaa.XH Go.Proofs.YtgflghnbpbiakaaW.PrintWords Go.Proofs.YtgflghnbpbiakaaW.PrintLast Go.Proofs.YtgflghnbpbiakaaW.PrintMore Go.Proofs.YtgflghnbpbiakaaXe Go.Proofs.YtgflghnbpbiakaaXs
set_option linter.unusedVariables false
set_option linter.unusedSimpArgs false
attribute [local go_sem ↓] Go.wp_at_zero Go.wp_at_succ
attribute [local go_sem] valUpon
set_option maxRecDepth 100000
/-- what is told lies in a block of the call's own, of which all is known -/
def told8 (w : World) (L : List Int) (e : Ending) (w' : World) : Prop := ∃ (g : Nat) (l : List Int), e = .returned (.slice (some ⟨g, 0, none⟩) L.length l.length) ∧ l.take L.length = L ∧ L.length ≤ l.length ∧ l.length ≤ 9223372036854775807 ∧ w.heap.size ≤ g ∧ w'.heap[g]? = some (.cells (u8s l).toArray 5 (0, 0)) ∧ Below w.heap.size w w'
theorem ev_app {P : Program} {ops : Array Oper} {rest : List Oper} {o : Oper} {a : Act} {Q : Exit → Act → World → Prop} {W : World} (hw : Region.wanted o (yielded ops a.tmps) = true) (s x : Operand) (t ti : TypeId) (ho : o.op = .call { callee := .builtin .append, args := #[s, x], argTypes := #[t, ti] })
    {vs vx v : Value} {w1 : World} (hs : a.eval s = vs) (hx : a.eval x = vx) (hr : (Builtin.append_ #[t, ti] o.type #[vs, vx]).run P W = .ok v w1) (h : wpList P ops Q rest (a.put o.dst v) w1) : wpList P ops Q (o :: rest) a W := by
  refine wpList_on hw fun K hK => ?_
  unfold Oper.wp execOp
  simp only [ho, resolve, invoke, builtin, Sem.run_bind, Sem.run_pure, Result.andThen_ok, List.map_toArray, List.map_cons, List.map_nil, hs, hx, hr]
  exact hK _ _ h
set_option maxHeartbeats 8000000 in
set_option maxRecDepth 100000 in
theorem c_grow8 (n : Nat) (h1 : 1 ≤ n) (hn : n ≤ 100000000000000) (w : World) : Calls Try.prog 61 #[.slice none 0 0, .int .i64 (n : Int)] w fun e w' => ∃ g cp, e = .returned (.slice (some ⟨g, 0, none⟩) 0 cp) ∧ w.heap.size ≤ g ∧ w'.heap[g]? = some (.cells (u8s (List.replicate cp 0)).toArray 5 (0, 0)) ∧ n ≤ cp ∧ cp ≤ 9223372036854775807 ∧ Below w.heap.size w w' := by
  have d1 : decide ((n : Int) < 0) = false := decide_eq_false (by omega)
  have ew : wrap64 (n : Int) = (n : Int) := by unfold wrap64; omega
  obtain ⟨cp, hrun, hc1, hc2⟩ := zerosN w n h1 hn 26 .i64
  rw [← ew] at hrun
  have c2 : (0 : Int) < (n : Int) := by omega
  have d3 : decide ((0 : Int) < (n : Int)) = true := decide_eq_true c2
  have d4 : decide (0 < n) = true := decide_eq_true (by omega)
  have d5 : decide ((0 : Int) < wrap64 (n : Int)) = true := decide_eq_true (by rw [ew]; exact c2)
  have HC := Aside0.mk (show n ≤ cp ∧ cp ≤ 9223372036854775807 from ⟨hc1, hc2⟩)
  clear hn c2 ew h1 hc1 hc2
  go_enter Try.func61, Try.ntmps61
  go_wp2_with (first | ((with_reducible refine gate_builtin (b := .append) (xs := #[.tmp 20, .tmp 21]) rfl ?_); refine ev_app rfl (.tmp 20) (.tmp 21) 26 3 rfl rfl rfl hrun ?_))
  go_ret
  exact ⟨_, cp, rfl, Nat.le_refl _, blk_new w.drew _, HC.out.1, HC.out.2, drewA_below _⟩
set_option maxHeartbeats 8000000 in
set_option maxRecDepth 100000 in
theorem c_concat8 (A : Option Addr) (c : Nat) (ls : List (List Int)) (w : World) (hr : Kd.C (Kd.slice 5 (Kd.int .u8)) w A ls.length ls) (hc : ls.length ≤ c) (hm : ls.flatten.length ≤ 100000000000000) (h1 : 1 ≤ ls.flatten.length) :
    Calls Try.prog 38 #[.slice A ls.length c] w (told8 w ls.flatten) := by
  have HR := Aside0.mk hr
  have HM := Aside0.mk hm
  have HF1 := Aside0.mk h1
  have hlm : ls.length ≤ 9223372036854775807 := hr.2.1
  have HLM := Aside0.mk hlm
  have HP := Aside0.mk (Hp.start w)
  clear hr hm hc hlm h1
  go_enter Try.func38, Try.ntmps38
  go_wp2_with fail
  go_loopg [3, 5, 11] ls.length (fun kq v3 v5 v11 w' => ∃ (i : Nat) (x s : Int), v3 = .int .i64 s ∧ v11 = .int .i64 x ∧ Aside0 (x = (i : Int)) ∧ Aside0 (kq + i = ls.length) ∧ Aside0 (s = ((ls.take i).flatten.length : Int)) ∧ Aside0 (Hp w w' []))
  case atStart => exact ⟨0, 0, 0, rfl, rfl, ⟨rfl⟩, ⟨by omega⟩, ⟨by simp⟩, HP⟩
  clear HP
  obtain ⟨i, x, s, rfl, rfl, HX, HK, HS, HP⟩ := hrel
  have hx := HX.out
  have hs := HS.out
  have hlm := HLM.out
  by_cases c1 : i < ls.length
  · have d1 : decide (x < (ls.length : Int)) = true := decide_eq_true (by omega)
    have p0 : 0 ≤ x := by omega
    have q0 : x < (ls.length : Int) := by omega
    have ex := i64k (x := x + 1) rfl (by omega)
    obtain ⟨ad, A1, c1', e, hx0, hl1, hi1⟩ := at_sl (Kd.C_below HR.out HP.out.below) x p0 q0
    cases e
    obtain ⟨b, hb⟩ : ∃ b, rdL ls x = b := ⟨_, rfl⟩
    rw [hb] at hx0
    have hfl := take_flatL ls i c1
    rw [← hx, hb] at hfl
    have hle := flat_take_le ls (i + 1)
    have hm := HM.out
    rw [hfl, List.length_append] at hle
    obtain ⟨s2, hs2⟩ : ∃ z, s + (b.length : Int) = z := ⟨_, rfl⟩
    have es := i64k hs2 (by omega)
    have d2 : decide (s2 < 0) = false := decide_eq_false (by omega)
    have HS2 := Aside0.mk (show s2 = ((ls.take (i + 1)).flatten.length : Int) by rw [hfl, List.length_append]; omega)
    have HC1 := Aside0.mk c1
    clear hl1 hi1 hb hfl hle hm hs2 hx hs hlm c1
    go_wp2_with fail
    go_roundg (gk - 1)
    case measure => have := HK.out; have := HC1.out; omega
    case rel => exact ⟨i + 1, x + 1, s2, rfl, by simp, ⟨by have := HX.out; omega⟩, ⟨by have := HK.out; have := HC1.out; omega⟩, HS2, HP⟩
  · have d1 : decide (x < (ls.length : Int)) = false := decide_eq_false (by have := HK.out; omega)
    obtain rfl : i = ls.length := by have := HK.out; omega
    rw [List.take_length] at hs
    obtain ⟨L, hL⟩ : ∃ z, ls.flatten = z := ⟨_, rfl⟩
    rw [hL] at hs
    subst hs
    have HLL := Aside0.mk hL
    have HLM2 := Aside0.mk (show L.length ≤ 100000000000000 by rw [← hL]; exact HM.out)
    clear hx hlm c1 HX HK HS hL
    go_wp2_with fail
    have HF2 := Aside0.mk (show 1 ≤ L.length by rw [← HLL.out]; exact HF1.out)
    (with_reducible refine (c_grow8 L.length HF2.out HLM2.out _).mono ?_); rintro e w1 ⟨g6, cp6, rfl, hge, hg, hcn, hcm, hb⟩
    have HPn := Aside0.mk (HP.out.newB hb hg hge)
    have HQ := Aside0.mk (show cp6 ≤ 9223372036854775807 from hcm)
    clear HP hb hg hge hcn hcm
    go_wp2_with fail
    have HP1 := HPn
    clear HPn
    go_loopg [6, 8, 27] ls.length (fun kq v6 v8 v27 w' => ∃ (i : Nat) (x : Int) (g : Nat) (l : List Int), v6 = .slice (some ⟨g, 0, none⟩) (ls.take i).flatten.length l.length ∧ v27 = .int .i64 x ∧ Aside0 (x = (i : Int)) ∧ Aside0 (kq + i = ls.length) ∧ Aside0 (l.take (ls.take i).flatten.length = (ls.take i).flatten ∧ (ls.take i).flatten.length ≤ l.length ∧ l.length ≤ 9223372036854775807) ∧ Aside0 (Hp w w' [.blk g (.cells (u8s l).toArray 5 (0, 0))]))
    case atStart => exact ⟨0, 0, g6, List.replicate cp6 0, by simp, rfl, ⟨rfl⟩, ⟨by omega⟩, ⟨by simp; exact HQ.out⟩, HP1⟩
    clear HP1 HQ
    obtain ⟨i, x, g, l, rfl, rfl, HX, HK, HL, HP⟩ := hrel
    have hx := HX.out
    have hlm := HLM.out
    by_cases c1 : i < ls.length
    · have d1 : decide (x < (ls.length : Int)) = true := decide_eq_true (by omega)
      have p0 : 0 ≤ x := by omega
      have q0 : x < (ls.length : Int) := by omega
      have ex := i64k (x := x + 1) rfl (by omega)
      obtain ⟨ad, A1, c1', e, hx0, hl1, hi1⟩ := at_sl (Kd.C_below HR.out HP.out.below) x p0 q0
      cases e
      obtain ⟨b, hb⟩ : ∃ b, rdL ls x = b := ⟨_, rfl⟩
      rw [hb] at hx0 hi1
      have hfl := take_flatL ls i c1
      rw [← hx, hb] at hfl
      have hle := flat_take_le ls (i + 1)
      have hm := HM.out
      rw [hfl, List.length_append] at hle
      have HFL := Aside0.mk hfl
      obtain ⟨M, hM⟩ : ∃ z, (ls.take i).flatten = z := ⟨_, rfl⟩
      rw [hM] at HL HFL hle
      rw [hM]
      have HLE := Aside0.mk (show M.length + b.length ≤ 100000000000000 by omega)
      have HI1 := Aside0.mk hi1
      have HC1 := Aside0.mk c1
      obtain ⟨wn, gn, ln, hrun, hn1, hn2, hn3, hpn⟩ := app8 HP.out 0 g M.length l b rfl HL.out.2.1 A1 b.length c1' hi1 HLE.out 26
      rw [HL.out.1] at hn2
      have HLn := Aside0.mk (show ln.take (ls.take (i + 1)).flatten.length = (ls.take (i + 1)).flatten ∧ (ls.take (i + 1)).flatten.length ≤ ln.length ∧ ln.length ≤ 9223372036854775807 by rw [HFL.out, List.length_append]; exact ⟨hn2, hn1, hn3 HL.out.2.2⟩)
      have HPn := Aside0.mk hpn
      have hln : M.length + b.length = (ls.take (i + 1)).flatten.length := by rw [HFL.out, List.length_append]
      obtain ⟨M2, hM2⟩ : ∃ z, (ls.take (i + 1)).flatten = z := ⟨_, rfl⟩
      rw [hM2] at hln
      rw [hln] at hrun
      have HM2 := Aside0.mk hM2
      clear hM2
      clear hl1 hi1 hb hfl hle hm hM hx hlm c1 hn1 hn2 hn3 hpn hln HP
      go_wp2_with (first | ((with_reducible refine gate_builtin (b := .append) (xs := #[.tmp 31, .tmp 32]) rfl ?_); at_builtin; refine ev_app rfl (.tmp 31) (.tmp 32) 26 26 rfl rfl rfl hrun ?_))
      go_roundg (gk - 1)
      case measure => have := HK.out; have := HC1.out; omega
      case rel => exact ⟨i + 1, x + 1, gn, ln, by rw [HM2.out], by simp, ⟨by have := HX.out; omega⟩, ⟨by have := HK.out; have := HC1.out; omega⟩, HLn, HPn⟩
    · have d1 : decide (x < (ls.length : Int)) = false := decide_eq_false (by have := HK.out; omega)
      obtain rfl : i = ls.length := by have := HK.out; omega
      clear hx hlm c1
      rw [List.take_length] at HL
      rw [List.take_length]
      go_wp2_with fail
      go_ret
      exact ⟨g, l, rfl, HL.out.1, HL.out.2.1, HL.out.2.2, HP.out.blk_ge 0 rfl, HP.out.blk 0 rfl, HP.out.below⟩
end Go.Proofs.Ytgflghnbpbiakaa.H
