import Derived.Test.YtncmbkjjoamfjaaK6
import Derived.Test.YtncmbkjjoamfjaaWZeros
namespace Go.Proofs.Ytncmbkjjoamfjaa.H
open Go.RowKit Go.Proofs.Ytncmbkjjoamfjaa.XH Go.Proofs.YtncmbkjjoamfjaaW.PrintWords Go.Proofs.YtncmbkjjoamfjaaW.PrintLast Go.Proofs.YtncmbkjjoamfjaaW.PrintMore Go.Proofs.YtncmbkjjoamfjaaXe Go.Proofs.YtncmbkjjoamfjaaXs
set_option linter.unusedVariables false
set_option linter.unusedSimpArgs false
attribute [local go_sem ↓] Go.wp_at_zero Go.wp_at_succ
attribute [local go_sem] valUpon
section
variable {P : Program} {ops : Array Oper} {rest : List Oper} {o : Oper} {a : Act} {Q : Exit → Act → World → Prop} {W w0 : World} {Rs : List Res} {α : Type} {d : Kd α}
/-- append of noughts -/
theorem ev_zeros (HP : Hp w0 W Rs) (i : Nat) (hw : Region.wanted o (yielded ops a.tmps) = true) (s x : Operand) (t ti e : TypeId) (z : Value) (bytes : Nat)
    (ho : o.op = .call { callee := .builtin .append, args := #[s, x], argTypes := #[t, ti] })
    (ht : P.underlying t = some (.slice e)) {k : IntKind} (hti : P.underlying ti = some (.int k)) (hinfo : (P.info? e).map (fun i => (i.zero, i.size, i.bytes)) = some (some z, d.sz, bytes)) (hz : z.cells.size = d.sz) (hs0 : 0 < d.sz) (hb0 : 0 < bytes)
    (v : Value) (xs : List α) (z0 : α) {kx : IntKind} (n : Int) (hs : a.eval s = v) (hx : a.eval x = .int kx n) (hzero : d.M W w0.heap.size (fun _ => False) z0 z.cells.toList)
    (hi : Rs[i]? = some (.row d e w0.heap.size v xs)) (h0 : 0 ≤ n) (hl : (xs.length + n.toNat) * bytes ≤ 140737488355328)
    (h : ∀ v1 w1, Hp w0 w1 (Rs.set i (.row d e w0.heap.size v1 (xs ++ List.replicate n.toNat z0))) → wpList P ops Q rest (a.put o.dst v1) w1) : wpList P ops Q (o :: rest) a W := by
  obtain ⟨F, hR, _, _, hup⟩ := HP.setR i hi
  refine wpList_step fun K hK => ?_
  refine Kd.R_append_zeros_step d (w0 := w0) (Kc := K) (Q := Q) w0.heap.size hw s x t ti e z bytes ho ht hti hinfo hz hs0 hb0 v xs z0 n (fun k => F k ∨ W.heap.size ≤ k) hs hx hzero (fun k hk => .inr hk) (Kd.R_mono hR fun k hk => .inl hk) h0 HP.below HP.size hl ?_
  intro v1 w1 ho1 hb1 hg1 hat
  exact hK _ _ (h v1 w1 (hup w1 v1 _ ho1 (fun k hk => hk) hb1 ⟨hg1.size, fun k hk hF => hg1.block k hk fun e => hF (hR.1 k e.symm)⟩))
theorem Hp.takeR {w : World} (HP : Hp w0 w Rs) (i m : Nat) {e : Nat} {A : Option Addr} {n c : Nat} {xs : List α} (hi : Rs[i]? = some (.row d e w0.heap.size (.slice A n c) xs)) (hm : m ≤ xs.length) : Hp w0 w (Rs.set i (.row d e w0.heap.size (.slice A m c) (xs.take m))) := by
  obtain ⟨F, hR, _, _, hup⟩ := HP.setR i hi
  exact hup w _ _ (Kd.R_take hR hm) (fun k hk => .inl hk) HP.below ⟨Nat.le_refl _, fun _ _ _ => rfl⟩
end
def rdL (xs : List (List Int)) (i : Int) : List Int := xs.getD i.toNat ([] : List Int)
theorem at_sl {w : World} {e : Nat} {A : Option Addr} {n : Nat} {xs : List (List Int)} (h : Kd.C (Kd.slice e (Kd.int .u8)) w A n xs) (i : Int) (h0 : 0 ≤ i) (h1 : i < n) : ∃ ad A0 c0, A = some ad ∧ w.cell? (ad.add i.toNat) = some (.slice A0 (rdL xs i).length c0) ∧ (rdL xs i).length ≤ c0 ∧ (Kd.int .u8).C w A0 (rdL xs i).length (rdL xs i) := by
  obtain ⟨ad, c, e, _, hK, hc0⟩ := Kd.C_get h ([] : List Int) i h0 h1
  have hc : ∀ j u, c[j]? = some u → w.cell? (ad.add (i.toNat * 1 + j)) = some u := hc0
  obtain ⟨A0, c0, rfl, l0, g0⟩ := hK
  exact ⟨ad, A0, c0, e, by have hq := hc 0 _ rfl; rwa [Nat.mul_one, Nat.add_zero] at hq, l0, g0⟩
theorem C_sls {w : World} {e g : Nat} {t : TypeId} {vs : List Value} {ls : List (List Int)} (h : w.heap[g]? = some (.cells vs.toArray t (0, 0))) (hl : vs.length = ls.length) (hm : ls.length ≤ 9223372036854775807)
    (hv : ∀ (j : Nat) (v : Value) (b : List Int), vs[j]? = some v → ls[j]? = some b → ∃ A c, v = .slice A b.length c ∧ b.length ≤ c ∧ Kd.C (Kd.int .u8) w A b.length b) : Kd.C (Kd.slice e (Kd.int .u8)) w (some ⟨g, 0, none⟩) ls.length ls := by
  refine ⟨rfl, hm, fun _ => ⟨_, rfl, fun j b hj => ?_⟩⟩
  have hjl : j < ls.length := (List.getElem?_eq_some_iff.1 hj).1
  obtain ⟨A, c, e1, e2, e3⟩ := hv j vs[j] b (List.getElem?_eq_getElem (by omega)) hj
  refine ⟨[.slice A b.length c], rfl, ⟨A, c, rfl, e2, e3⟩, fun i u hu => ?_⟩
  cases i with
  | zero =>
    simp at hu
    subst hu
    have h2 : (Kd.slice e (Kd.int .u8)).sz = 1 := rfl
    rw [h2, Nat.mul_one, Nat.add_zero, add_at, Nat.zero_add, cell_of_row w g _ _ _ _ h, ← e1]
    simp only [List.getElem?_toArray]
    exact List.getElem?_eq_getElem (by omega)
  | succ i => simp at hu
theorem cell_below {w w' : World} {a : Addr} {v : Value} (hb : Below w.heap.size w w') (h : w.cell? a = some v) : w'.cell? a = some v := (hb.cell (World.block_lt_of_cell? w a h)).trans h
theorem take_flatL (l : List (List Int)) (i : Nat) (h : i < l.length) : (l.take (i + 1)).flatten = (l.take i).flatten ++ rdL l (i : Int) := by
  rw [List.take_succ_eq_append_getElem h, List.flatten_append]
  simp [rdL, h]
theorem flat_take_le (l : List (List Int)) (i : Nat) : (l.take i).flatten.length ≤ l.flatten.length := by
  conv => rhs; rw [← List.take_append_drop i l, List.flatten_append, List.length_append]
  omega
set_option maxHeartbeats 8000000 in
set_option maxRecDepth 100000 in
theorem c_grow (n : Nat) (hn : n ≤ 100000000000000) (w : World) : Calls Try.prog 35 #[.slice none 0 0, .int .i64 (n : Int)] w fun e w' => ∃ v, e = .returned v ∧ Kd.R (Kd.int .u8) 5 w' w.heap.size (fun _ => True) v [] ∧ Below w.heap.size w w' := by
  have HP := Aside0.mk (show Hp w w [.row (Kd.int .u8) 5 w.heap.size (.slice none 0 0) []] from (Hp.start w).newR (Below.refl _ _) (Kd.R_nil (Kd.int .u8) 5 w w.heap.size (fun _ => True)))
  have d1 : decide ((n : Int) < 0) = false := decide_eq_false (by omega)
  have h0 : (0 : Int) ≤ (n : Int) := by omega
  have ew : wrap64 (n : Int) = (n : Int) := by unfold wrap64; omega
  have HN0 := Aside0.mk (show 0 ≤ wrap64 (n : Int) by rw [ew]; exact h0)
  have HN1 := Aside0.mk (show (([] : List Int).length + (wrap64 (n : Int)).toNat) * 1 ≤ 140737488355328 by rw [ew]; simp; omega)
  obtain ⟨l, hl⟩ : ∃ l, ([] : List Int) ++ List.replicate (wrap64 (n : Int)).toNat 0 = l := ⟨_, rfl⟩
  have HLL := Aside0.mk hl
  clear hl
  by_cases c1 : 0 < n
  · have c2 : (0 : Int) < (n : Int) := Int.natCast_pos.2 c1
    have d3 : decide ((0 : Int) < (n : Int)) = true := decide_eq_true c2
    have d4 : decide (0 < n) = true := decide_eq_true c1
    clear hn c1 c2
    go_enter Try.func35, Try.ntmps35
    go_wp2_with (first | ((with_reducible refine gate_builtin (b := .append) (xs := #[.tmp 20, .tmp 21]) rfl ?_); refine ev_zeros (d := Kd.int .u8) HP.out 0 rfl (.tmp 20) (.tmp 21) 22 3 5 (.int .u8 0) 1 rfl Try.underlying22 Try.underlying3 info5 rfl (by decide) (by omega) _ [] 0 _ rfl rfl rfl rfl HN0.out HN1.out ?_; intro v1 w1 hp; rw [HLL.out] at hp; clear HP; have HP := Aside0.mk hp; clear hp; obtain ⟨A1, c1, rfl⟩ := Kd.R_slice (HP.out.row 0 rfl)))
    go_ret
    exact ⟨_, rfl, Kd.R_mono (Kd.R_take (m := 0) (HP.out.row 0 rfl) (Nat.zero_le _)) (fun _ _ => trivial), HP.out.below⟩
  · have c2 : ¬ (0 : Int) < (n : Int) := fun h => c1 (Int.natCast_pos.1 h)
    have d3 : decide ((0 : Int) < (n : Int)) = false := decide_eq_false c2
    have d4 : decide (0 < n) = false := decide_eq_false c1
    clear hn c1 c2
    go_enter Try.func35, Try.ntmps35
    go_wp2
    go_ret
    exact ⟨_, rfl, HP.out.row 0 rfl, HP.out.below⟩
set_option maxHeartbeats 8000000 in
set_option maxRecDepth 100000 in
theorem c_concat (A : Option Addr) (c : Nat) (ls : List (List Int)) (w : World) (hr : Kd.C (Kd.slice 5 (Kd.int .u8)) w A ls.length ls) (hc : ls.length ≤ c) (hm : ls.flatten.length ≤ 100000000000000) :
    Calls Try.prog 26 #[.slice A ls.length c] w fun e w' => ∃ v, e = .returned v ∧ Kd.R (Kd.int .u8) 5 w' w.heap.size (fun _ => True) v ls.flatten ∧ Below w.heap.size w w' := by
  have HR := Aside0.mk hr
  have HM := Aside0.mk hm
  have hlm : ls.length ≤ 9223372036854775807 := hr.2.1
  have HLM := Aside0.mk hlm
  have HP := Aside0.mk (Hp.start w)
  clear hr hm hc hlm
  go_enter Try.func26, Try.ntmps26
  go_wp2_with fail
  go_loopg [3, 5, 11] ls.length (fun kq v3 v5 v11 w' => ∃ (i : Nat) (x s : Int), v3 = .int .i64 s ∧ v11 = .int .i64 x ∧ Aside0 (x = (i : Int)) ∧ Aside0 (kq + i = ls.length) ∧ Aside0 (s = ((ls.take i).flatten.length : Int)) ∧ Aside0 (Hp w w' []))
  case atStart => exact ⟨0, 0, 0, rfl, rfl, ⟨rfl⟩, ⟨by omega⟩, ⟨by simp⟩, HP⟩
  clear HP
  obtain ⟨i, x, s, rfl, rfl, HX, HK, HS, HP⟩ := hrel
  have hx := HX.out
  have hs := HS.out
  have hlm := HLM.out
  by_cases c1 : i < ls.length
  · have d1 : decide (x < (ls.length : Int)) = true := decide_eq_true (by omega)
    have p0 : 0 ≤ x := by omega
    have q0 : x < (ls.length : Int) := by omega
    have ex := i64k (x := x + 1) rfl (by omega)
    obtain ⟨ad, A1, c1', e, hx0, hl1, hi1⟩ := at_sl (Kd.C_below HR.out HP.out.below) x p0 q0
    cases e
    obtain ⟨b, hb⟩ : ∃ b, rdL ls x = b := ⟨_, rfl⟩
    rw [hb] at hx0
    have hfl := take_flatL ls i c1
    rw [← hx, hb] at hfl
    have hle := flat_take_le ls (i + 1)
    have hm := HM.out
    rw [hfl, List.length_append] at hle
    obtain ⟨s2, hs2⟩ : ∃ z, s + (b.length : Int) = z := ⟨_, rfl⟩
    have es := i64k hs2 (by omega)
    have d2 : decide (s2 < 0) = false := decide_eq_false (by omega)
    have HS2 := Aside0.mk (show s2 = ((ls.take (i + 1)).flatten.length : Int) by rw [hfl, List.length_append]; omega)
    have HC1 := Aside0.mk c1
    clear hl1 hi1 hb hfl hle hm hs2 hx hs hlm c1
    go_wp2_with fail
    go_roundg (gk - 1)
    case measure => have := HK.out; have := HC1.out; omega
    case rel => exact ⟨i + 1, x + 1, s2, rfl, by simp, ⟨by have := HX.out; omega⟩, ⟨by have := HK.out; have := HC1.out; omega⟩, HS2, HP⟩
  · have d1 : decide (x < (ls.length : Int)) = false := decide_eq_false (by have := HK.out; omega)
    obtain rfl : i = ls.length := by have := HK.out; omega
    rw [List.take_length] at hs
    obtain ⟨L, hL⟩ : ∃ z, ls.flatten = z := ⟨_, rfl⟩
    rw [hL] at hs
    subst hs
    have HLL := Aside0.mk hL
    have HLM2 := Aside0.mk (show L.length ≤ 100000000000000 by rw [← hL]; exact HM.out)
    clear hx hlm c1 HX HK HS hL
    go_wp2_with fail
    (with_reducible refine (c_grow L.length HLM2.out _).mono ?_); rintro e w1 ⟨v6, rfl, ho, hb⟩
    have HPn := Aside0.mk (HP.out.newR hb ho)
    clear HP hb ho
    go_wp2_with fail
    have HP1 := Aside0.mk (show Hp w w1 [.row (Kd.int .u8) 5 w.heap.size v6 (ls.take 0).flatten] from HPn.out)
    clear HPn
    go_loopg [6, 8, 27] ls.length (fun kq v6 v8 v27 w' => ∃ (i : Nat) (x : Int), v27 = .int .i64 x ∧ Aside0 (x = (i : Int)) ∧ Aside0 (kq + i = ls.length) ∧ Aside0 (Hp w w' [.row (Kd.int .u8) 5 w.heap.size v6 (ls.take i).flatten]))
    case atStart => exact ⟨0, 0, rfl, ⟨rfl⟩, ⟨by omega⟩, HP1⟩
    clear HP1
    obtain ⟨i, x, rfl, HX, HK, HP⟩ := hrel
    have hx := HX.out
    have hlm := HLM.out
    by_cases c1 : i < ls.length
    · have d1 : decide (x < (ls.length : Int)) = true := decide_eq_true (by omega)
      have p0 : 0 ≤ x := by omega
      have q0 : x < (ls.length : Int) := by omega
      have ex := i64k (x := x + 1) rfl (by omega)
      obtain ⟨ad, A1, c1', e, hx0, hl1, hi1⟩ := at_sl (Kd.C_below HR.out HP.out.below) x p0 q0
      cases e
      obtain ⟨b, hb⟩ : ∃ b, rdL ls x = b := ⟨_, rfl⟩
      rw [hb] at hx0 hi1
      have hfl := take_flatL ls i c1
      rw [← hx, hb] at hfl
      have hle := flat_take_le ls (i + 1)
      have hm := HM.out
      rw [hfl, List.length_append] at hle
      have HFL := Aside0.mk hfl
      obtain ⟨M, hM⟩ : ∃ z, (ls.take i).flatten = z := ⟨_, rfl⟩
      rw [hM] at HP HFL hle
      have HLE := Aside0.mk (show M.length + b.length ≤ 100000000000000 by omega)
      have HI1 := Aside0.mk hi1
      have HC1 := Aside0.mk c1
      obtain ⟨A6, c6, rfl⟩ := Kd.R_slice (HP.out.row 0 rfl)
      clear hl1 hi1 hb hfl hle hm hM hx hlm c1
      go_wp2_with (first | ((with_reducible refine gate_builtin (b := .append) (xs := #[.tmp 31, .tmp 32]) rfl ?_); at_builtin; refine ev_append (plain_int .u8) HP.out 0 rfl (.tmp 31) (.tmp 32) 22 5 (.int .u8 0) 1 rfl Try.underlying22 info5 rfl (by decide) (by omega) _ M b _ _ _ rfl rfl rfl HI1.out (by have := HLE.out; omega) ?_; intro v6 w4 hp; clear HP; have HP := Aside0.mk hp; clear hp))
      have HPn := Aside0.mk (show Hp w w4 [.row (Kd.int .u8) 5 w.heap.size v6 (ls.take (i + 1)).flatten] from by rw [HFL.out]; exact HP.out)
      go_roundg (gk - 1)
      case measure => have := HK.out; have := HC1.out; omega
      case rel => exact ⟨i + 1, x + 1, by simp, ⟨by have := HX.out; omega⟩, ⟨by have := HK.out; have := HC1.out; omega⟩, HPn⟩
    · have d1 : decide (x < (ls.length : Int)) = false := decide_eq_false (by have := HK.out; omega)
      obtain rfl : i = ls.length := by have := HK.out; omega
      clear hx hlm c1
      rw [List.take_length] at HP
      go_wp2_with fail
      go_ret
      exact ⟨_, rfl, HP.out.row 0 rfl, HP.out.below⟩
end Go.Proofs.Ytncmbkjjoamfjaa.H
