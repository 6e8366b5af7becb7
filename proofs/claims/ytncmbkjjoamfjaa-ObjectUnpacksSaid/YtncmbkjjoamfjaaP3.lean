import Derived.Test.YtncmbkjjoamfjaaP2
namespace Go.Proofs.Ytncmbkjjoamfjaa.H
open Go.RowKit Go.Proofs.Ytncmbkjjoamfjaa.XH Go.Proofs.YtncmbkjjoamfjaaW.PrintWords Go.Proofs.YtncmbkjjoamfjaaW.PrintLast Go.Proofs.YtncmbkjjoamfjaaW.PrintMore Go.Proofs.YtncmbkjjoamfjaaXe Go.Proofs.YtncmbkjjoamfjaaXs
set_option linter.unusedVariables false
set_option linter.unusedSimpArgs false
attribute [local go_sem ↓] Go.wp_at_zero Go.wp_at_succ
attribute [local go_sem] valUpon
/-- what is told lies in a block of the call's own, of which all is known -/
def told8 (w : World) (L : List Int) (e : Ending) (w' : World) : Prop := ∃ (g : Nat) (l : List Int), e = .returned (.slice (some ⟨g, 0, none⟩) L.length l.length) ∧ l.take L.length = L ∧ L.length ≤ l.length ∧ l.length ≤ 9223372036854775807 ∧ w.heap.size ≤ g ∧ w'.heap[g]? = some (.cells (u8s l).toArray 5 (0, 0)) ∧ Below w.heap.size w w'
theorem ev_app {P : Program} {ops : Array Oper} {rest : List Oper} {o : Oper} {a : Act} {Q : Exit → Act → World → Prop} {W : World} (hw : Region.wanted o (yielded ops a.tmps) = true) (s x : Operand) (t ti : TypeId) (ho : o.op = .call { callee := .builtin .append, args := #[s, x], argTypes := #[t, ti] })
    {vs vx v : Value} {w1 : World} (hs : a.eval s = vs) (hx : a.eval x = vx) (hr : (Builtin.append_ #[t, ti] o.type #[vs, vx]).run P W = .ok v w1) (h : wpList P ops Q rest (a.put o.dst v) w1) : wpList P ops Q (o :: rest) a W := by
  refine wpList_on hw fun K hK => ?_
  unfold Oper.wp execOp
  simp only [ho, resolve, invoke, builtin, Sem.run_bind, Sem.run_pure, Result.andThen_ok, List.map_toArray, List.map_cons, List.map_nil, hs, hx, hr]
  exact hK _ _ h
set_option maxHeartbeats 8000000 in
set_option maxRecDepth 100000 in
theorem c_grow8 (n : Nat) (h1 : 1 ≤ n) (hn : n ≤ 100000000000000) (w : World) : Calls Try.prog 35 #[.slice none 0 0, .int .i64 (n : Int)] w fun e w' => ∃ g cp, e = .returned (.slice (some ⟨g, 0, none⟩) 0 cp) ∧ w.heap.size ≤ g ∧ w'.heap[g]? = some (.cells (u8s (List.replicate cp 0)).toArray 5 (0, 0)) ∧ n ≤ cp ∧ cp ≤ 9223372036854775807 ∧ Below w.heap.size w w' := by
  have d1 : decide ((n : Int) < 0) = false := decide_eq_false (by omega)
  have ew : wrap64 (n : Int) = (n : Int) := by unfold wrap64; omega
  obtain ⟨cp, hrun, hc1, hc2⟩ := zerosN w n h1 hn 22 .i64
  rw [← ew] at hrun
  have c2 : (0 : Int) < (n : Int) := by omega
  have d3 : decide ((0 : Int) < (n : Int)) = true := decide_eq_true c2
  have d4 : decide (0 < n) = true := decide_eq_true (by omega)
  have d5 : decide ((0 : Int) < wrap64 (n : Int)) = true := decide_eq_true (by rw [ew]; exact c2)
  have HC := Aside0.mk (show n ≤ cp ∧ cp ≤ 9223372036854775807 from ⟨hc1, hc2⟩)
  clear hn c2 ew h1 hc1 hc2
  go_enter Try.func35, Try.ntmps35
  go_wp2_with (first | ((with_reducible refine gate_builtin (b := .append) (xs := #[.tmp 20, .tmp 21]) rfl ?_); refine ev_app rfl (.tmp 20) (.tmp 21) 22 3 rfl rfl rfl hrun ?_))
  go_ret
  exact ⟨_, cp, rfl, Nat.le_refl _, blk_new w.drew _, HC.out.1, HC.out.2, drewA_below _⟩
set_option maxHeartbeats 8000000 in
set_option maxRecDepth 100000 in
theorem c_concat8 (A : Option Addr) (c : Nat) (ls : List (List Int)) (w : World) (hr : Kd.C (Kd.slice 5 (Kd.int .u8)) w A ls.length ls) (hc : ls.length ≤ c) (hm : ls.flatten.length ≤ 100000000000000) (h1 : 1 ≤ ls.flatten.length) :
    Calls Try.prog 26 #[.slice A ls.length c] w (told8 w ls.flatten) := by
  have HR := Aside0.mk hr
  have HM := Aside0.mk hm
  have HF1 := Aside0.mk h1
  have hlm : ls.length ≤ 9223372036854775807 := hr.2.1
  have HLM := Aside0.mk hlm
  have HP := Aside0.mk (Hp.start w)
  clear hr hm hc hlm h1
  go_enter Try.func26, Try.ntmps26
  go_wp2_with fail
  go_loopg [3, 5, 11] ls.length (fun kq v3 v5 v11 w' => ∃ (i : Nat) (x s : Int), v3 = .int .i64 s ∧ v11 = .int .i64 x ∧ Aside0 (x = (i : Int)) ∧ Aside0 (kq + i = ls.length) ∧ Aside0 (s = ((ls.take i).flatten.length : Int)) ∧ Aside0 (Hp w w' []))
  case atStart => exact ⟨0, 0, 0, rfl, rfl, ⟨rfl⟩, ⟨by omega⟩, ⟨by simp⟩, HP⟩
  clear HP
  obtain ⟨i, x, s, rfl, rfl, HX, HK, HS, HP⟩ := hrel
  have hx := HX.out
  have hs := HS.out
  have hlm := HLM.out
  by_cases c1 : i < ls.length
  · have d1 : decide (x < (ls.length : Int)) = true := decide_eq_true (by omega)
    have p0 : 0 ≤ x := by omega
    have q0 : x < (ls.length : Int) := by omega
    have ex := i64k (x := x + 1) rfl (by omega)
    obtain ⟨ad, A1, c1', e, hx0, hl1, hi1⟩ := at_sl (Kd.C_below HR.out HP.out.below) x p0 q0
    cases e
    obtain ⟨b, hb⟩ : ∃ b, rdL ls x = b := ⟨_, rfl⟩
    rw [hb] at hx0
    have hfl := take_flatL ls i c1
    rw [← hx, hb] at hfl
    have hle := flat_take_le ls (i + 1)
    have hm := HM.out
    rw [hfl, List.length_append] at hle
    obtain ⟨s2, hs2⟩ : ∃ z, s + (b.length : Int) = z := ⟨_, rfl⟩
    have es := i64k hs2 (by omega)
    have d2 : decide (s2 < 0) = false := decide_eq_false (by omega)
    have HS2 := Aside0.mk (show s2 = ((ls.take (i + 1)).flatten.length : Int) by rw [hfl, List.length_append]; omega)
    have HC1 := Aside0.mk c1
    clear hl1 hi1 hb hfl hle hm hs2 hx hs hlm c1
    go_wp2_with fail
    go_roundg (gk - 1)
    case measure => have := HK.out; have := HC1.out; omega
    case rel => exact ⟨i + 1, x + 1, s2, rfl, by simp, ⟨by have := HX.out; omega⟩, ⟨by have := HK.out; have := HC1.out; omega⟩, HS2, HP⟩
  · have d1 : decide (x < (ls.length : Int)) = false := decide_eq_false (by have := HK.out; omega)
    obtain rfl : i = ls.length := by have := HK.out; omega
    rw [List.take_length] at hs
    obtain ⟨L, hL⟩ : ∃ z, ls.flatten = z := ⟨_, rfl⟩
    rw [hL] at hs
    subst hs
    have HLL := Aside0.mk hL
    have HLM2 := Aside0.mk (show L.length ≤ 100000000000000 by rw [← hL]; exact HM.out)
    clear hx hlm c1 HX HK HS hL
    go_wp2_with fail
    have HF2 := Aside0.mk (show 1 ≤ L.length by rw [← HLL.out]; exact HF1.out)
    (with_reducible refine (c_grow8 L.length HF2.out HLM2.out _).mono ?_); rintro e w1 ⟨g6, cp6, rfl, hge, hg, hcn, hcm, hb⟩
    have HPn := Aside0.mk (HP.out.newB hb hg hge)
    have HQ := Aside0.mk (show cp6 ≤ 9223372036854775807 from hcm)
    clear HP hb hg hge hcn hcm
    go_wp2_with fail
    have HP1 := HPn
    clear HPn
    go_loopg [6, 8, 27] ls.length (fun kq v6 v8 v27 w' => ∃ (i : Nat) (x : Int) (g : Nat) (l : List Int), v6 = .slice (some ⟨g, 0, none⟩) (ls.take i).flatten.length l.length ∧ v27 = .int .i64 x ∧ Aside0 (x = (i : Int)) ∧ Aside0 (kq + i = ls.length) ∧ Aside0 (l.take (ls.take i).flatten.length = (ls.take i).flatten ∧ (ls.take i).flatten.length ≤ l.length ∧ l.length ≤ 9223372036854775807) ∧ Aside0 (Hp w w' [.blk g (.cells (u8s l).toArray 5 (0, 0))]))
    case atStart => exact ⟨0, 0, g6, List.replicate cp6 0, by simp, rfl, ⟨rfl⟩, ⟨by omega⟩, ⟨by simp; exact HQ.out⟩, HP1⟩
    clear HP1 HQ
    obtain ⟨i, x, g, l, rfl, rfl, HX, HK, HL, HP⟩ := hrel
    have hx := HX.out
    have hlm := HLM.out
    by_cases c1 : i < ls.length
    · have d1 : decide (x < (ls.length : Int)) = true := decide_eq_true (by omega)
      have p0 : 0 ≤ x := by omega
      have q0 : x < (ls.length : Int) := by omega
      have ex := i64k (x := x + 1) rfl (by omega)
      obtain ⟨ad, A1, c1', e, hx0, hl1, hi1⟩ := at_sl (Kd.C_below HR.out HP.out.below) x p0 q0
      cases e
      obtain ⟨b, hb⟩ : ∃ b, rdL ls x = b := ⟨_, rfl⟩
      rw [hb] at hx0 hi1
      have hfl := take_flatL ls i c1
      rw [← hx, hb] at hfl
      have hle := flat_take_le ls (i + 1)
      have hm := HM.out
      rw [hfl, List.length_append] at hle
      have HFL := Aside0.mk hfl
      obtain ⟨M, hM⟩ : ∃ z, (ls.take i).flatten = z := ⟨_, rfl⟩
      rw [hM] at HL HFL hle
      rw [hM]
      have HLE := Aside0.mk (show M.length + b.length ≤ 100000000000000 by omega)
      have HI1 := Aside0.mk hi1
      have HC1 := Aside0.mk c1
      obtain ⟨wn, gn, ln, hrun, hn1, hn2, hn3, hpn⟩ := app8 HP.out 0 g M.length l b rfl HL.out.2.1 A1 b.length c1' hi1 HLE.out 22
      rw [HL.out.1] at hn2
      have HLn := Aside0.mk (show ln.take (ls.take (i + 1)).flatten.length = (ls.take (i + 1)).flatten ∧ (ls.take (i + 1)).flatten.length ≤ ln.length ∧ ln.length ≤ 9223372036854775807 by rw [HFL.out, List.length_append]; exact ⟨hn2, hn1, hn3 HL.out.2.2⟩)
      have HPn := Aside0.mk hpn
      have hln : M.length + b.length = (ls.take (i + 1)).flatten.length := by rw [HFL.out, List.length_append]
      obtain ⟨M2, hM2⟩ : ∃ z, (ls.take (i + 1)).flatten = z := ⟨_, rfl⟩
      rw [hM2] at hln
      rw [hln] at hrun
      have HM2 := Aside0.mk hM2
      clear hM2
      clear hl1 hi1 hb hfl hle hm hM hx hlm c1 hn1 hn2 hn3 hpn hln HP
      go_wp2_with (first | ((with_reducible refine gate_builtin (b := .append) (xs := #[.tmp 31, .tmp 32]) rfl ?_); at_builtin; refine ev_app rfl (.tmp 31) (.tmp 32) 22 22 rfl rfl rfl hrun ?_))
      go_roundg (gk - 1)
      case measure => have := HK.out; have := HC1.out; omega
      case rel => exact ⟨i + 1, x + 1, gn, ln, by rw [HM2.out], by simp, ⟨by have := HX.out; omega⟩, ⟨by have := HK.out; have := HC1.out; omega⟩, HLn, HPn⟩
    · have d1 : decide (x < (ls.length : Int)) = false := decide_eq_false (by have := HK.out; omega)
      obtain rfl : i = ls.length := by have := HK.out; omega
      clear hx hlm c1
      rw [List.take_length] at HL
      rw [List.take_length]
      go_wp2_with fail
      go_ret
      exact ⟨g, l, rfl, HL.out.1, HL.out.2.1, HL.out.2.2, HP.out.blk_ge 0 rfl, HP.out.blk 0 rfl, HP.out.below⟩
end Go.Proofs.Ytncmbkjjoamfjaa.H
