import Derived.Test.YtejfocliopbocaaQ09
import Derived.Deep.CutBlock
namespace Go.Proofs.Ytejfocliopbocaa.Su
open Go.Proofs.Ytejfocliopbocaa.H
open Go.RowKit Go.Proofs.Ytejfocliopbocaa.XD Go.Proofs.YtejfocliopbocaaW.PrintWords Go.Proofs.YtejfocliopbocaaW.PrintLast Go.Proofs.YtejfocliopbocaaW.PrintMore Go.Proofs.YtejfocliopbocaaXe Go.Proofs.YtejfocliopbocaaXs
set_option linter.unusedVariables false
set_option linter.unusedSimpArgs false
attribute [local go_sem ↓] Go.wp_at_zero Go.wp_at_succ
open Go.Proofs.Ytejfocliopbocaa.D hiding c_len c_new c_write
theorem wpAnyH_mono {P : Program} {md : Region.Mode} {ops : Array Oper} {Q : Exit → Act → World → Prop} {S S' : World → Prop} (hS : ∀ w, S' w → S w) : ∀ (fuel : Nat) (listed : Array Bool) (a : Act) (w : World), wpAnyH P md ops Q S' fuel listed a w → wpAnyH P md ops Q S fuel listed a w
  | 0, _, _, _, h => h
  | fuel + 1, _, _, _, h => ⟨h.1, fun i hi => wpOp_mono (fun a' w' h' => ⟨hS _ h'.1, wpAnyH_mono hS fuel _ a' w' h'.2⟩) (h.2 i hi)⟩
def actV (x : XD.S43) (A2 : Option Addr) (c2 : Nat) (A3 : Option Addr) (c3 : Nat) : List Value := [.int .i64 x.f0, .int .i64 x.f1, .slice A2 x.f2.length c2, .slice A3 x.f3.length c3]
theorem act_range {w : World} {b o n : Nat} {l : List XD.S43} (h : XD.k43.C w (some ⟨b, o, none⟩) n l) {j : Nat} {x : XD.S43} (hj : l[j]? = some x) : ∃ A2 c2 A3 c3, w.rangeAt b (o + j * 4) (actV x A2 c2 A3 c3) ∧ x.f2.length ≤ c2 ∧ (Kd.int .u8).C w A2 x.f2.length x.f2 ∧ x.f3.length ≤ c3 ∧ Kd.bool.C w A3 x.f3.length x.f3 := by
  obtain ⟨cs, hK, hr⟩ := range_K h hj
  obtain ⟨A2, c2, A3, c3, rfl, l2, g2, l3, g3⟩ := XD.k43_open hK
  exact ⟨A2, c2, A3, c3, hr, l2, g2, l3, g3⟩
structure wfA (x : XD.S43) : Prop where
  n : x.f1 ≤ 9223372036854775807
  b : Bytes x.f2
theorem c_act {w0 w : World} (g1 g2 : Nat) (S : DS) (R : RS) (ex : List Pt) (j : Nat) (HP0 : Hp w0 w [rRef w0.heap.size g2 R ex, rDisk w0.heap.size g1 S]) (hI : Inv S R j) (hj : j < 80) (k n : Int) (A2 : Option Addr) (c2 : Nat) (b : List Int) (h2 : Kd.C (Kd.int .u8) w0 A2 b.length b) (l2 : b.length ≤ c2) (hb : b.length ≤ 100) (hB : Bytes b)
    (A3 : Option Addr) (c3 : Nat) (m : List Bool) (h3 : Kd.C Kd.bool w0 A3 m.length m) (l3 : m.length ≤ c3) (hm : m.length ≤ 100) (hn : n ≤ 9223372036854775807) :
    Calls Try.prog 26 #[.pointer (some ⟨g1, 0, none⟩), .pointer (some ⟨g2, 0, none⟩), .agg #[.int .i64 k, .int .i64 n, .slice A2 b.length c2, .slice A3 m.length c3]] w (actPost w0 g1 g2 j) := by
  by_cases e0 : k = 0
  · subst e0; exact c_act0 g1 g2 S R ex j HP0 hI hj n A2 c2 b _ rfl h2 l2 hb hB
  by_cases e1 : k = 1
  · subst e1; exact c_act1 g1 g2 S R ex j HP0 hI hj n _ _ rfl rfl
  by_cases e2 : k = 2
  · subst e2; exact c_act2 g1 g2 S R ex j HP0 hI hj n _ _ rfl rfl
  by_cases e3 : k = 3
  · subst e3; exact c_act3 g1 g2 S R ex j HP0 hI hj n hn _ _ rfl rfl
  by_cases e4 : k = 4
  · subst e4; exact c_act4 g1 g2 S R ex j HP0 hI hj n _ rfl A3 c3 m h3 l3 hm
  exact c_actX g1 g2 S R ex j HP0 hI hj n k e0 e1 e2 e3 e4 _ _ rfl rfl
theorem inv_le {S : DS} {R : RS} {j k : Nat} (h : Inv S R j) (h1 : j ≤ k) (h2 : k ≤ 80) : Inv S R k := ⟨h.sim, h.ok, by have := h.l; omega, by have := h.f; omega, h2⟩
set_option maxHeartbeats 8000000 in
set_option maxRecDepth 100000 in
theorem diskScript_law (n : Int) (A : Option Addr) (c : Nat) (l : List XD.S43) (w : World) (h : Kd.C XD.k43 w A l.length l) (hc : l.length ≤ c) (hw : ∀ x ∈ l, wfA x) : Calls Try.prog 6 #[.int .i64 n, .slice A l.length c] w fun e w' => e = .returned (.bool true) ∧ Below w.heap.size w w' := by
  have HC := Aside0.mk h
  have HW := Aside0.mk hw
  obtain ⟨kl, rl, hrl, hok⟩ := large_tells l (Kd.C_max h)
  have CLG := Aside0.mk (fun w' (h : Kd.C XD.k43 w' A l.length l) => XD.retconlaw12_large.calls kl A c l rl w' h hc hrl)
  have HOK := Aside0.mk hok
  have HP := Aside0.mk (Hp.start w)
  clear h hw hc hrl hok
  by_cases hn : n < 0 ∨ 65536 < n
  · have CA := Aside0.mk (fun w => c_newE n hn w)
    have CB := Aside0.mk (fun w => c_rnewE n hn w)
    clear hn
    go_enter Try.func6, Try.ntmps6
    go_wp2_with fail
    refine (CA.out _).mono ?_; rintro e w_ ⟨rfl, rfl⟩
    go_wp2_with fail
    refine (CB.out _).mono ?_; rintro e w_ ⟨rfl, rfl⟩
    go_wp2_with fail
    refine (CLG.out _ HC.out).mono ?_; rintro e w_ ⟨rfl, n_, rfl⟩; have HPn := Aside0.mk (HP.out.drewN n_); clear HP; have HP := HPn; clear HPn
    clear HOK CLG
    cases rl <;> (
      go_wp2_with fail
      refine (c_awake _).mono ?_; rintro e w2 ⟨rfl, hb⟩; have HPn := Aside0.mk (HP.out.call hb); clear HP; have HP := HPn; clear HPn; clear hb
      go_wp2_with fail
      go_ret
      exact ⟨rfl, HP.out.below⟩)
  have HN := Aside0.mk (show 0 ≤ n ∧ n ≤ 65536 by omega)
  clear hn
  go_enter Try.func6, Try.ntmps6
  go_wp2_with fail
  have CC := Aside0.mk (c_newD HP.out n HN.out.1 HN.out.2)
  refine CC.out.mono ?_; rintro e w1 ⟨g1, rfl, hpn⟩
  clear HP CC
  have HP := Aside0.mk hpn
  clear hpn
  go_wp2_with fail
  have CC := Aside0.mk (c_rnew HP.out n HN.out.1 HN.out.2)
  refine CC.out.mono ?_; rintro e w2 ⟨g2, rfl, hpn⟩
  clear HP CC
  have HP := Aside0.mk hpn
  clear hpn
  go_wp2_with fail
  refine (CLG.out _ (Kd.C_below HC.out HP.out.below)).mono ?_; rintro e w_ ⟨rfl, n_, rfl⟩; have HPn := Aside0.mk (HP.out.drewN n_); clear HP; have HP := HPn; clear HPn
  obtain ⟨w3, hw3⟩ : ∃ z, w2.drewN n_ = z := ⟨_, rfl⟩
  rw [hw3] at HP ⊢
  clear hw3 CLG
  cases rl with
  | true =>
    clear HOK
    go_wp2_with fail
    refine (c_awake _).mono ?_; rintro e w4 ⟨rfl, hb⟩; have HPn := Aside0.mk (HP.out.call hb); clear HP; have HP := HPn; clear HPn; clear hb
    go_wp2_with fail
    go_ret
    exact ⟨rfl, HP.out.below⟩
  | false =>
    have HKO := Aside0.mk (HOK.out rfl)
    have hll : (l.length : Int) ≤ 60 := by have := HKO.out.1; omega
    clear HOK
    go_wp2_with fail
    go_loopg [9] l.length (fun kq v9 w' => ∃ (j : Nat) (x : Int) (S : DS) (R : RS) (ex : List Pt), v9 = .int .i64 x ∧ Aside0 (x = (j : Int)) ∧ Aside0 (kq + j = l.length) ∧ Aside0 (Inv S R j) ∧ Aside0 (Hp w w' [rRef w.heap.size g2 R ex, rDisk w.heap.size g1 S]))
    case atStart => exact ⟨0, 0, newS n, newR n, [], rfl, ⟨rfl⟩, ⟨rfl⟩, ⟨inv_new n⟩, HP⟩
    clear HP
    obtain ⟨j, x, S, R, ex, rfl, HX, HJ, HI, HP⟩ := hrel
    have hx := HX.out
    by_cases c1 : j < l.length
    rotate_left
    · have d1 : decide (x < (l.length : Int)) = false := decide_eq_false (by omega)
      have HJ60 := Aside0.mk (show j ≤ 60 by have := HJ.out; omega)
      clear hx c1
      go_wp2_with fail
      go_loopg [10] 8 (fun kq v10 w' => ∃ (i : Nat) (y : Int) (S : DS) (R : RS) (ex : List Pt), v10 = .int .i64 y ∧ Aside0 (y = (i : Int)) ∧ Aside0 (kq + i = 8) ∧ Aside0 (Inv S R (60 + i)) ∧ Aside0 (Hp w w' [rRef w.heap.size g2 R ex, rDisk w.heap.size g1 S]))
      case atStart => exact ⟨0, 0, S, R, ex, rfl, ⟨rfl⟩, ⟨rfl⟩, ⟨inv_le HI.out HJ60.out (by decide)⟩, HP⟩
      clear HP HI HJ HX HJ60
      clear S R ex
      obtain ⟨i, y, S, R, ex, rfl, HX, HJ, HI, HP⟩ := hrel
      have hx := HX.out
      have hj := HJ.out
      have OUT : True := trivial
      by_cases c8 : i < 8
      · have d8 : decide (y < 8) = true := decide_eq_true (by omega)
        have hmc : wr.cell? ⟨g2, 0, none⟩ = some (.int .i64 R.many) := by
          obtain ⟨v1, v2, ps, hm, HP1⟩ := Hp.openR HP.out 0 g2 R ex rfl
          exact blk_cell (HP1.blk 0 rfl) 0
        by_cases cm : y < R.many
        · have dm : decide (y < R.many) = true := decide_eq_true cm
          have ey : IntKind.i64.wrap (y + 1) = y + 1 := IntWalk.i64_in _ (by omega)
          have HC8 := Aside0.mk c8
          have CA := Aside0.mk (c_act1 g1 g2 S R ex (60 + i) HP.out HI.out (by omega) y (.slice none 0 0) (.slice none 0 0) rfl rfl)
          clear hx hj c8 cm
          go_wp2_with fail
          refine CA.out.mono ?_; rintro e wa ⟨rfl, T, Q, ex2, hin, hpn⟩
          clear HP CA hmc
          have HP := Aside0.mk hpn
          have HIn := Aside0.mk hin
          clear hpn hin
          go_wp2_with fail
          go_roundg (gk - 1)
          case measure => have := HJ.out; have := HC8.out; omega
          case rel => exact ⟨i + 1, y + 1, T, Q, ex2, rfl, ⟨by have := HX.out; omega⟩, ⟨by have := HJ.out; have := HC8.out; omega⟩, HIn, HP⟩
        · have dm : decide (y < R.many) = false := decide_eq_false cm
          clear hx hj c8 cm
          go_wp2_with fail
          refine (c_awake _).mono ?_; rintro e w4 ⟨rfl, hb⟩; have HPn := Aside0.mk (HP.out.call hb); clear HP; have HP := HPn; clear HPn; clear hb
          go_wp2_with fail
          go_ret
          exact ⟨rfl, HP.out.below⟩
      · have d8 : decide (y < 8) = false := decide_eq_false (by omega)
        clear hx hj c8
        go_wp2_with fail
        refine (c_awake _).mono ?_; rintro e w4 ⟨rfl, hb⟩; have HPn := Aside0.mk (HP.out.call hb); clear HP; have HP := HPn; clear HPn; clear hb
        go_wp2_with fail
        go_ret
        exact ⟨rfl, HP.out.below⟩
    have d1 : decide (x < (l.length : Int)) = true := decide_eq_true (by omega)
    have ex_ : IntKind.i64.wrap (x + 1) = x + 1 := IntWalk.i64_in _ (by omega)
    have p0 : 0 ≤ x := by omega
    have q0 : x < (l.length : Int) := by omega
    obtain ⟨a, ha⟩ : ∃ p, l[j]? = some p := ⟨_, List.getElem?_eq_getElem c1⟩
    obtain ⟨Ab, Ao, rfl⟩ := C_addrK (by decide) HC.out (by omega)
    obtain ⟨A2, c2, A3, c3, hr, l2, g2_, l3, g3_⟩ := act_range HC.out ha
    have hxt : x.toNat = j := by omega
    have hlt : Ab < w.heap.size := by
      have k0 := hr 0 _ rfl
      rcases Nat.lt_or_ge Ab w.heap.size with h | h
      · exact h
      · rw [World.cell?, Array.getElem?_eq_none h] at k0; cases k0
    have HRW := Aside0.mk (fun (w' : World) (hb : Below w.heap.size w w') => (show w'.rangeAt Ab (Ao + x.toNat * 4) (actV a A2 c2 A3 c3) from fun k v hv => (hb.cell (p := ⟨Ab, _, none⟩) (by exact hlt)).trans (by rw [hxt]; exact hr k v hv)))
    have HAW := Aside0.mk (HW.out a (List.mem_of_getElem? ha))
    have HAO := Aside0.mk (HKO.out.2 a (List.mem_of_getElem? ha))
    have HG := Aside0.mk (And.intro (And.intro g2_ l2) (And.intro g3_ l3))
    have CACT := Aside0.mk (fun (w' : World) (HP : Hp w w' [rRef w.heap.size g2 R ex, rDisk w.heap.size g1 S]) (hj : j < 80) => c_act g1 g2 S R ex j HP HI.out hj a.f0 a.f1 A2 c2 a.f2 HG.out.1.1 HG.out.1.2 HAO.out.1 HAW.out.b A3 c3 a.f3 HG.out.2.1 HG.out.2.2 HAO.out.2 HAW.out.n)
    have HJJ := Aside0.mk (show j < 80 by have := HKO.out.1; omega)
    have HAV : Aside0 (actV a A2 c2 A3 c3 = [.int .i64 a.f0, .int .i64 a.f1, .slice A2 a.f2.length c2, .slice A3 a.f3.length c3]) := ⟨rfl⟩
    clear hx c1 hxt hlt hr g2_ l2 g3_ l3 ha
    go_wp2_with fail
    refine held_named (S := (fun w' => w'.rangeAt Ab (Ao + x.toNat * 4) (actV a A2 c2 A3 c3))) (by kernel_rfl) (fun wd0 hwd0 => ?_)
    have HPn := Aside0.mk (HP.out.drewN 1)
    rw [← World.drew_is_drewN, hwd0] at HPn
    clear HP hwd0
    have HP := HPn
    clear HPn
    refine ⟨by (try dsimp only); exact HRW.out _ HP.out.below, fun hHeld => ?_⟩
    refine wpAnyH_take (i := 0) (oi := ({ dst := (some 44), op := (Op.move (Operand.tmp 5)), type := 22, pos := "law.go:65", after := #[], guard := none } : Oper)) (v := ?_) rfl (by kernel_rfl) (by kernel_rfl) (by kernel_rfl) (fun _ _ _ h => h) (Or.inl ⟨by rfl, ?_⟩) hHeld ?_
    rotate_left
    · intro w_ hSw; (try dsimp only at hSw); go_simp; try (with_reducible rfl)
    try simp only [Act.put, List.setIfInBounds_toArray, List.set_cons_zero, List.set_cons_succ]
    refine wpAnyH_take (i := 1) (oi := ({ dst := (some 45), op := (Op.move (Operand.tmp 7)), type := 50, pos := "law.go:65", after := #[], guard := none } : Oper)) (v := ?_) rfl (by kernel_rfl) (by kernel_rfl) (by kernel_rfl) (fun _ _ _ h => h) (Or.inl ⟨by rfl, ?_⟩) hHeld ?_
    rotate_left
    · intro w_ hSw; (try dsimp only at hSw); go_simp; try (with_reducible rfl)
    try simp only [Act.put, List.setIfInBounds_toArray, List.set_cons_zero, List.set_cons_succ]
    refine wpAnyH_take (i := 2) (oi := ({ dst := (some 46), op := (Op.move (Operand.tmp 1)), type := 36, pos := "law.go:65", after := #[], guard := none } : Oper)) (v := ?_) rfl (by kernel_rfl) (by kernel_rfl) (by kernel_rfl) (fun _ _ _ h => h) (Or.inl ⟨by rfl, ?_⟩) hHeld ?_
    rotate_left
    · intro w_ hSw; (try dsimp only at hSw); go_simp; try (with_reducible rfl)
    try simp only [Act.put, List.setIfInBounds_toArray, List.set_cons_zero, List.set_cons_succ]
    refine wpAnyH_take (i := 3) (oi := ({ dst := (some 47), op := (Op.move (Operand.tmp 9)), type := 3, pos := "law.go:65", after := #[], guard := none } : Oper)) (v := ?_) rfl (by kernel_rfl) (by kernel_rfl) (by kernel_rfl) (fun _ _ _ h => h) (Or.inl ⟨by rfl, ?_⟩) hHeld ?_
    rotate_left
    · intro w_ hSw; (try dsimp only at hSw); go_simp; try (with_reducible rfl)
    try simp only [Act.put, List.setIfInBounds_toArray, List.set_cons_zero, List.set_cons_succ]
    refine wpAnyH_take (i := 4) (oi := ({ dst := (some 48), op := (Op.indexAddr 36 (Operand.tmp 46) (Operand.tmp 47)), type := 0, pos := "law.go:65", after := #[{ on := 2, ground := Ground.data }, { on := 3, ground := Ground.data }], guard := none } : Oper)) (v := ?_) rfl (by kernel_rfl) (by kernel_rfl) (by kernel_rfl) (fun _ _ _ h => h) (Or.inl ⟨by rfl, ?_⟩) hHeld ?_
    rotate_left
    · intro w_ hSw; (try dsimp only at hSw); go_simp; try (with_reducible rfl)
    try simp only [Act.put, List.setIfInBounds_toArray, List.set_cons_zero, List.set_cons_succ]
    refine wpAnyH_take (i := 5) (oi := ({ dst := (some 49), op := (Op.load 43 (Operand.tmp 48)), type := 43, pos := "law.go:65", after := #[{ on := 4, ground := Ground.data }], guard := none } : Oper)) (v := _) rfl (by kernel_rfl) (by kernel_rfl) (by kernel_rfl) (fun _ _ _ h => h) (yieldsIf_load_mid (by rfl) _ _ rfl _ _ rfl _ _ (fun w h => h) Try.underlying43 rfl (by kernel_rfl)) hHeld ?_
    try simp only [Act.put, List.setIfInBounds_toArray, List.set_cons_zero, List.set_cons_succ]
    refine wpAnyH_ready (rs := [6]) (by kernel_rfl) (by simp) ?_
    refine AllReadyH.cons (o := ({ dst := (some 50), op := (Op.call { callee := (Callee.value (Operand.func 26)), args := #[(Operand.tmp 44), (Operand.tmp 45), (Operand.tmp 49)], argTypes := #[22, 50, 43] }), type := 4, pos := "law.go:65", after := #[{ on := 0, ground := Ground.data }, { on := 1, ground := Ground.data }, { on := 5, ground := Ground.data }], guard := none } : Oper)) rfl (fun K hK => ?_) AllReadyH.nil
    go_simp
    refine (CACT.out _ HP.out HJJ.out).mono ?_; rintro e wa ⟨rfl, T, Q, ex2, hin, hpn⟩
    clear HP
    have HP := Aside0.mk hpn
    have HIn := Aside0.mk hin
    clear hpn hin CACT
    go_wp2_with fail
    clear hHeld
    refine hK.out _ _ ?_ (fun hHeld => ?_)
    · (try dsimp only); exact HRW.out _ HP.out.below
    clear hK K
    try simp only [Act.put, List.setIfInBounds_toArray, List.set_cons_zero, List.set_cons_succ]
    obtain ⟨v1, v2, ps, hm, HP1⟩ := Hp.openR HP.out 0 g2 Q ex2 rfl
    obtain ⟨A_s, c_s, rfl⟩ := Kd.R_slice (HP1.row 2 rfl)
    have HMM := Aside0.mk hm
    clear HP hm
    have HP := Aside0.mk HP1
    clear HP1
    have HST := Aside0.mk (And.intro (And.intro HIn.out.sim.steps HIn.out.soft.symm) (And.intro HIn.out.sim.many HIn.out.sim.out))
    refine wpAnyH_mono (S' := (fun w' => w'.rangeAt Ab (Ao + x.toNat * 4) (actV a A2 c2 A3 c3) ∧ w'.cell? ⟨g2, 0, none⟩ = some (.int .i64 Q.many) ∧ w'.cell? ⟨g2, 5, none⟩ = some (.int .i64 Q.count) ∧ w'.cell? ⟨g2, 2, none⟩ = some (.slice A_s Q.soft.length c_s) ∧ w'.cell? ⟨g2, 6, none⟩ = some (.bool Q.out))) (fun w_ h => h.1) _ _ _ _ ?_
    have hH2 : (fun w' => w'.rangeAt Ab (Ao + x.toNat * 4) (actV a A2 c2 A3 c3) ∧ w'.cell? ⟨g2, 0, none⟩ = some (.int .i64 Q.many) ∧ w'.cell? ⟨g2, 5, none⟩ = some (.int .i64 Q.count) ∧ w'.cell? ⟨g2, 2, none⟩ = some (.slice A_s Q.soft.length c_s) ∧ w'.cell? ⟨g2, 6, none⟩ = some (.bool Q.out)) wa := ⟨HRW.out _ HP.out.below, blk_cell (HP.out.blk 0 rfl) 0, blk_cell (HP.out.blk 0 rfl) 5, blk_cell (HP.out.blk 0 rfl) 2, blk_cell (HP.out.blk 0 rfl) 6⟩
    clear hHeld
    have hHeld := hH2
    clear hH2
    refine wpAnyH_take (i := 7) (oi := ({ dst := (some 51), op := (Op.unOp UnOp.not 4 (Operand.tmp 50)), type := 4, pos := "law.go:65", after := #[{ on := 6, ground := Ground.data }], guard := none } : Oper)) (v := ?_) rfl (by kernel_rfl) (by kernel_rfl) (by kernel_rfl) (fun _ _ _ h => h) (Or.inl ⟨by rfl, ?_⟩) hHeld ?_
    rotate_left
    · intro w_ hSw; (try dsimp only at hSw); go_simp; try (with_reducible rfl)
    try simp only [Act.put, List.setIfInBounds_toArray, List.set_cons_zero, List.set_cons_succ]
    refine wpAnyH_take (i := 8) (oi := ({ dst := (some 52), op := (Op.move (Operand.tmp 51)), type := 4, pos := "law.go:65", after := #[{ on := 7, ground := Ground.data }, { on := 6, ground := Ground.chain }], guard := none } : Oper)) (v := ?_) rfl (by kernel_rfl) (by kernel_rfl) (by kernel_rfl) (fun _ _ _ h => h) (Or.inl ⟨by rfl, ?_⟩) hHeld ?_
    rotate_left
    · intro w_ hSw; (try dsimp only at hSw); go_simp; try (with_reducible rfl)
    try simp only [Act.put, List.setIfInBounds_toArray, List.set_cons_zero, List.set_cons_succ]
    refine wpAnyH_take (i := 9) (oi := ({ dst := (some 53), op := (Op.move (Operand.tmp 5)), type := 22, pos := "law.go:65", after := #[{ on := 8, ground := Ground.guard }], guard := (some (8, false)) } : Oper)) (v := ?_) rfl (by kernel_rfl) (by kernel_rfl) (by kernel_rfl) (fun _ _ _ h => h) (Or.inl ⟨by rfl, ?_⟩) hHeld ?_
    rotate_left
    · intro w_ hSw; (try dsimp only at hSw); go_simp; try (with_reducible rfl)
    try simp only [Act.put, List.setIfInBounds_toArray, List.set_cons_zero, List.set_cons_succ]
    refine wpAnyH_take (i := 11) (oi := ({ dst := (some 55), op := (Op.move (Operand.tmp 7)), type := 50, pos := "law.go:65", after := #[{ on := 8, ground := Ground.guard }], guard := (some (8, false)) } : Oper)) (v := ?_) rfl (by kernel_rfl) (by kernel_rfl) (by kernel_rfl) (fun _ _ _ h => h) (Or.inl ⟨by rfl, ?_⟩) hHeld ?_
    rotate_left
    · intro w_ hSw; (try dsimp only at hSw); go_simp; try (with_reducible rfl)
    try simp only [Act.put, List.setIfInBounds_toArray, List.set_cons_zero, List.set_cons_succ]
    refine wpAnyH_take (i := 12) (oi := ({ dst := (some 56), op := (Op.nilCheck (Operand.tmp 55)), type := 0, pos := "law.go:65", after := #[{ on := 11, ground := Ground.data }, { on := 8, ground := Ground.guard }], guard := (some (8, false)) } : Oper)) (v := ?_) rfl (by kernel_rfl) (by kernel_rfl) (by kernel_rfl) (fun _ _ _ h => h) (Or.inl ⟨by rfl, ?_⟩) hHeld ?_
    rotate_left
    · intro w_ hSw; (try dsimp only at hSw); go_simp; try (with_reducible rfl)
    try simp only [Act.put, List.setIfInBounds_toArray, List.set_cons_zero, List.set_cons_succ]
    refine wpAnyH_take (i := 13) (oi := ({ dst := (some 57), op := (Op.fieldAddr 56 (Operand.tmp 56) 0), type := 0, pos := "law.go:65", after := #[{ on := 12, ground := Ground.data }, { on := 8, ground := Ground.guard }], guard := (some (8, false)) } : Oper)) (v := ?_) rfl (by kernel_rfl) (by kernel_rfl) (by kernel_rfl) (fun _ _ _ h => h) (Or.inl ⟨by rfl, ?_⟩) hHeld ?_
    rotate_left
    · intro w_ hSw; (try dsimp only at hSw); go_simp; try (with_reducible rfl)
    try simp only [Act.put, List.setIfInBounds_toArray, List.set_cons_zero, List.set_cons_succ]
    refine wpAnyH_take (i := 14) (oi := ({ dst := (some 58), op := (Op.load 3 (Operand.tmp 57)), type := 3, pos := "law.go:65", after := #[{ on := 13, ground := Ground.data }, { on := 8, ground := Ground.guard }], guard := (some (8, false)) } : Oper)) (v := ?_) rfl (by kernel_rfl) (by kernel_rfl) (by kernel_rfl) (fun _ _ _ h => h) (Or.inl ⟨by rfl, ?_⟩) hHeld ?_
    rotate_left
    · intro w_ hSw; (try dsimp only at hSw); go_simp; try (with_reducible rfl)
    try simp only [Act.put, List.setIfInBounds_toArray, List.set_cons_zero, List.set_cons_succ]
    refine wpAnyH_ready (rs := [10]) (by kernel_rfl) (by simp) ?_
    refine AllReadyH.cons (o := ({ dst := (some 54), op := (Op.call { callee := (Callee.value (Operand.func 27)), args := #[(Operand.tmp 53)], argTypes := #[22] }), type := 3, pos := "law.go:65", after := #[{ on := 9, ground := Ground.data }, { on := 8, ground := Ground.chain }, { on := 8, ground := Ground.guard }], guard := (some (8, false)) } : Oper)) rfl (fun K hK => ?_) AllReadyH.nil
    go_simp
    have CC := Aside0.mk (c_lenD HP.out 5 g1 T rfl)
    rw [HST.out.2.1] at CC
    refine CC.out.mono ?_; rintro e w_ ⟨rfl, rfl⟩
    clear CC
    go_wp2_with fail
    clear hHeld
    refine hK.out _ _ ?_ (fun hHeld => ?_)
    · (try dsimp only); exact ⟨HRW.out _ HP.out.below, blk_cell (HP.out.blk 0 rfl) 0, blk_cell (HP.out.blk 0 rfl) 5, blk_cell (HP.out.blk 0 rfl) 2, blk_cell (HP.out.blk 0 rfl) 6⟩
    clear hK K
    try simp only [Act.put, List.setIfInBounds_toArray, List.set_cons_zero, List.set_cons_succ]
    refine wpAnyH_take (i := 15) (oi := ({ dst := (some 59), op := (Op.binOp BinOp.neq 3 (Operand.tmp 54) (Operand.tmp 58) 3), type := 4, pos := "law.go:65", after := #[{ on := 10, ground := Ground.data }, { on := 14, ground := Ground.data }, { on := 8, ground := Ground.guard }], guard := (some (8, false)) } : Oper)) (v := ?_) rfl (by kernel_rfl) (by kernel_rfl) (by kernel_rfl) (fun _ _ _ h => h) (Or.inl ⟨by rfl, ?_⟩) hHeld ?_
    rotate_left
    · intro w_ hSw; (try dsimp only at hSw); go_simp; try (with_reducible rfl)
    try simp only [Act.put, List.setIfInBounds_toArray, List.set_cons_zero, List.set_cons_succ]
    refine wpAnyH_take (i := 16) (oi := ({ dst := (some 60), op := (Op.pick (Operand.tmp 52) (Operand.const (Value.bool true)) (Operand.tmp 59)), type := 4, pos := "law.go:65", after := #[{ on := 8, ground := Ground.data }, { on := 15, ground := Ground.data }], guard := none } : Oper)) (v := ?_) rfl (by kernel_rfl) (by kernel_rfl) (by kernel_rfl) (fun _ _ _ h => h) (Or.inl ⟨by rfl, ?_⟩) hHeld ?_
    rotate_left
    · intro w_ hSw; (try dsimp only at hSw); go_simp; try (with_reducible rfl)
    try simp only [Act.put, List.setIfInBounds_toArray, List.set_cons_zero, List.set_cons_succ]
    refine wpAnyH_take (i := 17) (oi := ({ dst := (some 61), op := (Op.move (Operand.tmp 60)), type := 4, pos := "law.go:65", after := #[{ on := 16, ground := Ground.data }, { on := 10, ground := Ground.chain }], guard := none } : Oper)) (v := ?_) rfl (by kernel_rfl) (by kernel_rfl) (by kernel_rfl) (fun _ _ _ h => h) (Or.inl ⟨by rfl, ?_⟩) hHeld ?_
    rotate_left
    · intro w_ hSw; (try dsimp only at hSw); go_simp; try (with_reducible rfl)
    try simp only [Act.put, List.setIfInBounds_toArray, List.set_cons_zero, List.set_cons_succ]
    refine wpAnyH_take (i := 18) (oi := ({ dst := (some 62), op := (Op.move (Operand.tmp 5)), type := 22, pos := "law.go:65", after := #[{ on := 17, ground := Ground.guard }], guard := (some (17, false)) } : Oper)) (v := ?_) rfl (by kernel_rfl) (by kernel_rfl) (by kernel_rfl) (fun _ _ _ h => h) (Or.inl ⟨by rfl, ?_⟩) hHeld ?_
    rotate_left
    · intro w_ hSw; (try dsimp only at hSw); go_simp; try (with_reducible rfl)
    try simp only [Act.put, List.setIfInBounds_toArray, List.set_cons_zero, List.set_cons_succ]
    refine wpAnyH_take (i := 20) (oi := ({ dst := (some 64), op := (Op.move (Operand.tmp 7)), type := 50, pos := "law.go:65", after := #[{ on := 17, ground := Ground.guard }], guard := (some (17, false)) } : Oper)) (v := ?_) rfl (by kernel_rfl) (by kernel_rfl) (by kernel_rfl) (fun _ _ _ h => h) (Or.inl ⟨by rfl, ?_⟩) hHeld ?_
    rotate_left
    · intro w_ hSw; (try dsimp only at hSw); go_simp; try (with_reducible rfl)
    try simp only [Act.put, List.setIfInBounds_toArray, List.set_cons_zero, List.set_cons_succ]
    refine wpAnyH_take (i := 21) (oi := ({ dst := (some 65), op := (Op.nilCheck (Operand.tmp 64)), type := 0, pos := "law.go:65", after := #[{ on := 20, ground := Ground.data }, { on := 17, ground := Ground.guard }], guard := (some (17, false)) } : Oper)) (v := ?_) rfl (by kernel_rfl) (by kernel_rfl) (by kernel_rfl) (fun _ _ _ h => h) (Or.inl ⟨by rfl, ?_⟩) hHeld ?_
    rotate_left
    · intro w_ hSw; (try dsimp only at hSw); go_simp; try (with_reducible rfl)
    try simp only [Act.put, List.setIfInBounds_toArray, List.set_cons_zero, List.set_cons_succ]
    refine wpAnyH_take (i := 22) (oi := ({ dst := (some 66), op := (Op.fieldAddr 56 (Operand.tmp 65) 2), type := 0, pos := "law.go:65", after := #[{ on := 21, ground := Ground.data }, { on := 17, ground := Ground.guard }], guard := (some (17, false)) } : Oper)) (v := ?_) rfl (by kernel_rfl) (by kernel_rfl) (by kernel_rfl) (fun _ _ _ h => h) (Or.inl ⟨by rfl, ?_⟩) hHeld ?_
    rotate_left
    · intro w_ hSw; (try dsimp only at hSw); go_simp; try (with_reducible rfl)
    try simp only [Act.put, List.setIfInBounds_toArray, List.set_cons_zero, List.set_cons_succ]
    refine wpAnyH_take (i := 23) (oi := ({ dst := (some 67), op := (Op.load 54 (Operand.tmp 66)), type := 54, pos := "law.go:65", after := #[{ on := 22, ground := Ground.data }, { on := 17, ground := Ground.guard }], guard := (some (17, false)) } : Oper)) (v := ?_) rfl (by kernel_rfl) (by kernel_rfl) (by kernel_rfl) (fun _ _ _ h => h) (Or.inl ⟨by rfl, ?_⟩) hHeld ?_
    rotate_left
    · intro w_ hSw; (try dsimp only at hSw); go_simp; try (with_reducible rfl)
    try simp only [Act.put, List.setIfInBounds_toArray, List.set_cons_zero, List.set_cons_succ]
    refine wpAnyH_take (i := 24) (oi := ({ dst := (some 68), op := (Op.call { callee := (Callee.builtin Builtin.len), args := #[(Operand.tmp 67)], argTypes := #[54] }), type := 3, pos := "law.go:65", after := #[{ on := 23, ground := Ground.data }, { on := 17, ground := Ground.guard }], guard := (some (17, false)) } : Oper)) (v := ?_) rfl (by kernel_rfl) (by kernel_rfl) (by kernel_rfl) (fun _ _ _ h => h) (Or.inl ⟨by rfl, ?_⟩) hHeld ?_
    rotate_left
    · intro w_ hSw; (try dsimp only at hSw); go_simp; try (with_reducible rfl)
    try simp only [Act.put, List.setIfInBounds_toArray, List.set_cons_zero, List.set_cons_succ]
    refine wpAnyH_ready (rs := [19]) (by kernel_rfl) (by simp) ?_
    refine AllReadyH.cons (o := ({ dst := (some 63), op := (Op.call { callee := (Callee.value (Operand.func 22)), args := #[(Operand.tmp 62)], argTypes := #[22] }), type := 3, pos := "law.go:65", after := #[{ on := 18, ground := Ground.data }, { on := 17, ground := Ground.chain }, { on := 17, ground := Ground.guard }], guard := (some (17, false)) } : Oper)) rfl (fun K hK => ?_) AllReadyH.nil
    go_simp
    have CC := Aside0.mk (c_looseD HP.out 5 g1 T rfl)
    rw [HST.out.1.2] at CC
    refine CC.out.mono ?_; rintro e w_ ⟨rfl, rfl⟩
    clear CC
    go_wp2_with fail
    clear hHeld
    refine hK.out _ _ ?_ (fun hHeld => ?_)
    · (try dsimp only); exact ⟨HRW.out _ HP.out.below, blk_cell (HP.out.blk 0 rfl) 0, blk_cell (HP.out.blk 0 rfl) 5, blk_cell (HP.out.blk 0 rfl) 2, blk_cell (HP.out.blk 0 rfl) 6⟩
    clear hK K
    try simp only [Act.put, List.setIfInBounds_toArray, List.set_cons_zero, List.set_cons_succ]
    refine wpAnyH_take (i := 25) (oi := ({ dst := (some 69), op := (Op.binOp BinOp.neq 3 (Operand.tmp 63) (Operand.tmp 68) 3), type := 4, pos := "law.go:65", after := #[{ on := 19, ground := Ground.data }, { on := 24, ground := Ground.data }, { on := 17, ground := Ground.guard }], guard := (some (17, false)) } : Oper)) (v := ?_) rfl (by kernel_rfl) (by kernel_rfl) (by kernel_rfl) (fun _ _ _ h => h) (Or.inl ⟨by rfl, ?_⟩) hHeld ?_
    rotate_left
    · intro w_ hSw; (try dsimp only at hSw); go_simp; try (with_reducible rfl)
    try simp only [Act.put, List.setIfInBounds_toArray, List.set_cons_zero, List.set_cons_succ]
    refine wpAnyH_take (i := 26) (oi := ({ dst := (some 70), op := (Op.pick (Operand.tmp 61) (Operand.const (Value.bool true)) (Operand.tmp 69)), type := 4, pos := "law.go:65", after := #[{ on := 17, ground := Ground.data }, { on := 25, ground := Ground.data }], guard := none } : Oper)) (v := ?_) rfl (by kernel_rfl) (by kernel_rfl) (by kernel_rfl) (fun _ _ _ h => h) (Or.inl ⟨by rfl, ?_⟩) hHeld ?_
    rotate_left
    · intro w_ hSw; (try dsimp only at hSw); go_simp; try (with_reducible rfl)
    try simp only [Act.put, List.setIfInBounds_toArray, List.set_cons_zero, List.set_cons_succ]
    refine wpAnyH_take (i := 27) (oi := ({ dst := (some 71), op := (Op.move (Operand.tmp 70)), type := 4, pos := "law.go:65", after := #[{ on := 26, ground := Ground.data }, { on := 19, ground := Ground.chain }], guard := none } : Oper)) (v := ?_) rfl (by kernel_rfl) (by kernel_rfl) (by kernel_rfl) (fun _ _ _ h => h) (Or.inl ⟨by rfl, ?_⟩) hHeld ?_
    rotate_left
    · intro w_ hSw; (try dsimp only at hSw); go_simp; try (with_reducible rfl)
    try simp only [Act.put, List.setIfInBounds_toArray, List.set_cons_zero, List.set_cons_succ]
    refine wpAnyH_take (i := 28) (oi := ({ dst := (some 72), op := (Op.move (Operand.tmp 5)), type := 22, pos := "law.go:65", after := #[{ on := 27, ground := Ground.guard }], guard := (some (27, false)) } : Oper)) (v := ?_) rfl (by kernel_rfl) (by kernel_rfl) (by kernel_rfl) (fun _ _ _ h => h) (Or.inl ⟨by rfl, ?_⟩) hHeld ?_
    rotate_left
    · intro w_ hSw; (try dsimp only at hSw); go_simp; try (with_reducible rfl)
    try simp only [Act.put, List.setIfInBounds_toArray, List.set_cons_zero, List.set_cons_succ]
    refine wpAnyH_take (i := 30) (oi := ({ dst := (some 74), op := (Op.move (Operand.tmp 7)), type := 50, pos := "law.go:65", after := #[{ on := 27, ground := Ground.guard }], guard := (some (27, false)) } : Oper)) (v := ?_) rfl (by kernel_rfl) (by kernel_rfl) (by kernel_rfl) (fun _ _ _ h => h) (Or.inl ⟨by rfl, ?_⟩) hHeld ?_
    rotate_left
    · intro w_ hSw; (try dsimp only at hSw); go_simp; try (with_reducible rfl)
    try simp only [Act.put, List.setIfInBounds_toArray, List.set_cons_zero, List.set_cons_succ]
    refine wpAnyH_take (i := 31) (oi := ({ dst := (some 75), op := (Op.nilCheck (Operand.tmp 74)), type := 0, pos := "law.go:65", after := #[{ on := 30, ground := Ground.data }, { on := 27, ground := Ground.guard }], guard := (some (27, false)) } : Oper)) (v := ?_) rfl (by kernel_rfl) (by kernel_rfl) (by kernel_rfl) (fun _ _ _ h => h) (Or.inl ⟨by rfl, ?_⟩) hHeld ?_
    rotate_left
    · intro w_ hSw; (try dsimp only at hSw); go_simp; try (with_reducible rfl)
    try simp only [Act.put, List.setIfInBounds_toArray, List.set_cons_zero, List.set_cons_succ]
    refine wpAnyH_take (i := 32) (oi := ({ dst := (some 76), op := (Op.fieldAddr 56 (Operand.tmp 75) 5), type := 0, pos := "law.go:65", after := #[{ on := 31, ground := Ground.data }, { on := 27, ground := Ground.guard }], guard := (some (27, false)) } : Oper)) (v := ?_) rfl (by kernel_rfl) (by kernel_rfl) (by kernel_rfl) (fun _ _ _ h => h) (Or.inl ⟨by rfl, ?_⟩) hHeld ?_
    rotate_left
    · intro w_ hSw; (try dsimp only at hSw); go_simp; try (with_reducible rfl)
    try simp only [Act.put, List.setIfInBounds_toArray, List.set_cons_zero, List.set_cons_succ]
    refine wpAnyH_take (i := 33) (oi := ({ dst := (some 77), op := (Op.load 3 (Operand.tmp 76)), type := 3, pos := "law.go:65", after := #[{ on := 32, ground := Ground.data }, { on := 27, ground := Ground.guard }], guard := (some (27, false)) } : Oper)) (v := ?_) rfl (by kernel_rfl) (by kernel_rfl) (by kernel_rfl) (fun _ _ _ h => h) (Or.inl ⟨by rfl, ?_⟩) hHeld ?_
    rotate_left
    · intro w_ hSw; (try dsimp only at hSw); go_simp; try (with_reducible rfl)
    try simp only [Act.put, List.setIfInBounds_toArray, List.set_cons_zero, List.set_cons_succ]
    refine wpAnyH_ready (rs := [29]) (by kernel_rfl) (by simp) ?_
    refine AllReadyH.cons (o := ({ dst := (some 73), op := (Op.call { callee := (Callee.value (Operand.func 28)), args := #[(Operand.tmp 72)], argTypes := #[22] }), type := 3, pos := "law.go:65", after := #[{ on := 28, ground := Ground.data }, { on := 27, ground := Ground.chain }, { on := 27, ground := Ground.guard }], guard := (some (27, false)) } : Oper)) rfl (fun K hK => ?_) AllReadyH.nil
    go_simp
    have CC := Aside0.mk (c_stepsD HP.out 5 g1 T rfl)
    rw [HST.out.1.1] at CC
    refine CC.out.mono ?_; rintro e w_ ⟨rfl, rfl⟩
    clear CC
    go_wp2_with fail
    clear hHeld
    refine hK.out _ _ ?_ (fun hHeld => ?_)
    · (try dsimp only); exact ⟨HRW.out _ HP.out.below, blk_cell (HP.out.blk 0 rfl) 0, blk_cell (HP.out.blk 0 rfl) 5, blk_cell (HP.out.blk 0 rfl) 2, blk_cell (HP.out.blk 0 rfl) 6⟩
    clear hK K
    try simp only [Act.put, List.setIfInBounds_toArray, List.set_cons_zero, List.set_cons_succ]
    refine wpAnyH_take (i := 34) (oi := ({ dst := (some 78), op := (Op.binOp BinOp.neq 3 (Operand.tmp 73) (Operand.tmp 77) 3), type := 4, pos := "law.go:65", after := #[{ on := 29, ground := Ground.data }, { on := 33, ground := Ground.data }, { on := 27, ground := Ground.guard }], guard := (some (27, false)) } : Oper)) (v := ?_) rfl (by kernel_rfl) (by kernel_rfl) (by kernel_rfl) (fun _ _ _ h => h) (Or.inl ⟨by rfl, ?_⟩) hHeld ?_
    rotate_left
    · intro w_ hSw; (try dsimp only at hSw); go_simp; try (with_reducible rfl)
    try simp only [Act.put, List.setIfInBounds_toArray, List.set_cons_zero, List.set_cons_succ]
    refine wpAnyH_take (i := 35) (oi := ({ dst := (some 79), op := (Op.pick (Operand.tmp 71) (Operand.const (Value.bool true)) (Operand.tmp 78)), type := 4, pos := "law.go:65", after := #[{ on := 27, ground := Ground.data }, { on := 34, ground := Ground.data }], guard := none } : Oper)) (v := ?_) rfl (by kernel_rfl) (by kernel_rfl) (by kernel_rfl) (fun _ _ _ h => h) (Or.inl ⟨by rfl, ?_⟩) hHeld ?_
    rotate_left
    · intro w_ hSw; (try dsimp only at hSw); go_simp; try (with_reducible rfl)
    try simp only [Act.put, List.setIfInBounds_toArray, List.set_cons_zero, List.set_cons_succ]
    refine wpAnyH_take (i := 36) (oi := ({ dst := (some 80), op := (Op.move (Operand.tmp 79)), type := 4, pos := "law.go:65", after := #[{ on := 35, ground := Ground.data }, { on := 29, ground := Ground.chain }], guard := none } : Oper)) (v := ?_) rfl (by kernel_rfl) (by kernel_rfl) (by kernel_rfl) (fun _ _ _ h => h) (Or.inl ⟨by rfl, ?_⟩) hHeld ?_
    rotate_left
    · intro w_ hSw; (try dsimp only at hSw); go_simp; try (with_reducible rfl)
    try simp only [Act.put, List.setIfInBounds_toArray, List.set_cons_zero, List.set_cons_succ]
    refine wpAnyH_take (i := 37) (oi := ({ dst := (some 81), op := (Op.move (Operand.tmp 5)), type := 22, pos := "law.go:65", after := #[{ on := 36, ground := Ground.guard }], guard := (some (36, false)) } : Oper)) (v := ?_) rfl (by kernel_rfl) (by kernel_rfl) (by kernel_rfl) (fun _ _ _ h => h) (Or.inl ⟨by rfl, ?_⟩) hHeld ?_
    rotate_left
    · intro w_ hSw; (try dsimp only at hSw); go_simp; try (with_reducible rfl)
    try simp only [Act.put, List.setIfInBounds_toArray, List.set_cons_zero, List.set_cons_succ]
    refine wpAnyH_take (i := 39) (oi := ({ dst := (some 83), op := (Op.move (Operand.tmp 7)), type := 50, pos := "law.go:65", after := #[{ on := 36, ground := Ground.guard }], guard := (some (36, false)) } : Oper)) (v := ?_) rfl (by kernel_rfl) (by kernel_rfl) (by kernel_rfl) (fun _ _ _ h => h) (Or.inl ⟨by rfl, ?_⟩) hHeld ?_
    rotate_left
    · intro w_ hSw; (try dsimp only at hSw); go_simp; try (with_reducible rfl)
    try simp only [Act.put, List.setIfInBounds_toArray, List.set_cons_zero, List.set_cons_succ]
    refine wpAnyH_take (i := 40) (oi := ({ dst := (some 84), op := (Op.nilCheck (Operand.tmp 83)), type := 0, pos := "law.go:65", after := #[{ on := 39, ground := Ground.data }, { on := 36, ground := Ground.guard }], guard := (some (36, false)) } : Oper)) (v := ?_) rfl (by kernel_rfl) (by kernel_rfl) (by kernel_rfl) (fun _ _ _ h => h) (Or.inl ⟨by rfl, ?_⟩) hHeld ?_
    rotate_left
    · intro w_ hSw; (try dsimp only at hSw); go_simp; try (with_reducible rfl)
    try simp only [Act.put, List.setIfInBounds_toArray, List.set_cons_zero, List.set_cons_succ]
    refine wpAnyH_take (i := 41) (oi := ({ dst := (some 85), op := (Op.fieldAddr 56 (Operand.tmp 84) 6), type := 0, pos := "law.go:65", after := #[{ on := 40, ground := Ground.data }, { on := 36, ground := Ground.guard }], guard := (some (36, false)) } : Oper)) (v := ?_) rfl (by kernel_rfl) (by kernel_rfl) (by kernel_rfl) (fun _ _ _ h => h) (Or.inl ⟨by rfl, ?_⟩) hHeld ?_
    rotate_left
    · intro w_ hSw; (try dsimp only at hSw); go_simp; try (with_reducible rfl)
    try simp only [Act.put, List.setIfInBounds_toArray, List.set_cons_zero, List.set_cons_succ]
    refine wpAnyH_take (i := 42) (oi := ({ dst := (some 86), op := (Op.load 4 (Operand.tmp 85)), type := 4, pos := "law.go:65", after := #[{ on := 41, ground := Ground.data }, { on := 36, ground := Ground.guard }], guard := (some (36, false)) } : Oper)) (v := ?_) rfl (by kernel_rfl) (by kernel_rfl) (by kernel_rfl) (fun _ _ _ h => h) (Or.inl ⟨by rfl, ?_⟩) hHeld ?_
    rotate_left
    · intro w_ hSw; (try dsimp only at hSw); go_simp; try (with_reducible rfl)
    try simp only [Act.put, List.setIfInBounds_toArray, List.set_cons_zero, List.set_cons_succ]
    refine wpAnyH_ready (rs := [38]) (by kernel_rfl) (by simp) ?_
    refine AllReadyH.cons (o := ({ dst := (some 82), op := (Op.call { callee := (Callee.value (Operand.func 16)), args := #[(Operand.tmp 81)], argTypes := #[22] }), type := 4, pos := "law.go:65", after := #[{ on := 37, ground := Ground.data }, { on := 36, ground := Ground.chain }, { on := 36, ground := Ground.guard }], guard := (some (36, false)) } : Oper)) rfl (fun K hK => ?_) AllReadyH.nil
    go_simp
    have CC := Aside0.mk (c_upD HP.out 5 g1 T rfl)
    rw [HST.out.2.2] at CC
    refine CC.out.mono ?_; rintro e w_ ⟨rfl, rfl⟩
    clear CC
    go_wp2_with fail
    clear hHeld
    refine hK.out _ _ ?_ (fun hHeld => ?_)
    · (try dsimp only); exact ⟨HRW.out _ HP.out.below, blk_cell (HP.out.blk 0 rfl) 0, blk_cell (HP.out.blk 0 rfl) 5, blk_cell (HP.out.blk 0 rfl) 2, blk_cell (HP.out.blk 0 rfl) 6⟩
    clear hK K
    try simp only [Act.put, List.setIfInBounds_toArray, List.set_cons_zero, List.set_cons_succ]
    refine wpAnyH_take (i := 43) (oi := ({ dst := (some 87), op := (Op.binOp BinOp.eql 4 (Operand.tmp 82) (Operand.tmp 86) 4), type := 4, pos := "law.go:65", after := #[{ on := 38, ground := Ground.data }, { on := 42, ground := Ground.data }, { on := 36, ground := Ground.guard }], guard := (some (36, false)) } : Oper)) (v := ?_) rfl (by kernel_rfl) (by kernel_rfl) (by kernel_rfl) (fun _ _ _ h => h) (Or.inl ⟨by rfl, ?_⟩) hHeld ?_
    rotate_left
    · intro w_ hSw; (try dsimp only at hSw); go_simp; try (with_reducible rfl)
    try simp only [Act.put, List.setIfInBounds_toArray, List.set_cons_zero, List.set_cons_succ]
    refine wpAnyH_take (i := 44) (oi := ({ dst := (some 88), op := (Op.pick (Operand.tmp 80) (Operand.const (Value.bool true)) (Operand.tmp 87)), type := 4, pos := "law.go:65", after := #[{ on := 36, ground := Ground.data }, { on := 43, ground := Ground.data }], guard := none } : Oper)) (v := ?_) rfl (by kernel_rfl) (by kernel_rfl) (by kernel_rfl) (fun _ _ _ h => h) (Or.inl ⟨by rfl, ?_⟩) hHeld ?_
    rotate_left
    · intro w_ hSw; (try dsimp only at hSw); go_simp; try (with_reducible rfl)
    try simp only [Act.put, List.setIfInBounds_toArray, List.set_cons_zero, List.set_cons_succ]
    refine wpAnyH_done (by kernel_rfl) ?_ _
    clear hHeld
    have HPd := Aside0.mk (Hp.closeR Q ex2 HMM.out (i := 0) (g := g2) (Rs := [rRef w.heap.size g2 Q ex2, rDisk w.heap.size g1 T]) (show 0 < 2 by decide) HP.out)
    clear HP
    have HP := HPd
    clear HPd
    go_wp2_with fail
    go_roundg (gk - 1)
    case measure => have := HJ.out; have := HX.out; omega
    case rel => exact ⟨j + 1, x + 1, T, Q, ex2, rfl, ⟨by have := HX.out; omega⟩, ⟨by have := HJ.out; have := HX.out; omega⟩, HIn, HP⟩
end Go.Proofs.Ytejfocliopbocaa.Su
