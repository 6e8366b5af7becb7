import Derived.Test.YtejfocliopbocaaQ06
namespace Go.Proofs.Ytejfocliopbocaa.Su
open Go.Proofs.Ytejfocliopbocaa.H
open Go.RowKit Go.Proofs.Ytejfocliopbocaa.XD Go.Proofs.YtejfocliopbocaaW.PrintWords Go.Proofs.YtejfocliopbocaaW.PrintLast Go.Proofs.YtejfocliopbocaaW.PrintMore Go.Proofs.YtejfocliopbocaaXe Go.Proofs.YtejfocliopbocaaXs
set_option linter.unusedVariables false
set_option linter.unusedSimpArgs false
attribute [local go_sem ↓] Go.wp_at_zero Go.wp_at_succ
open Go.Proofs.Ytejfocliopbocaa.D hiding c_len c_new c_write
def writeRE (R : RS) (n : Int) (b : List Int) : Int := if R.readyE n ≠ 0 then R.readyE n else if b.length ≠ 64 then 2 else if stepB R = false then 10 else 0
def writeR (R : RS) (n : Int) (b : List Int) (v : Value) : RS := if R.readyE n ≠ 0 then R else if b.length ≠ 64 then R else if stepB R = false then stepR R else { stepR R with soft := (stepR R).soft ++ [⟨n, v, b⟩] }
def putP : List Pt → Pt → List Pt
  | [], p => [p]
  | q :: l, p => if q.n = p.n then ⟨q.n, p.v, p.b⟩ :: l else q :: putP l p
theorem putP_at : ∀ (l : List Pt) (p : Pt) (j : Nat) (q : Pt), l[j]? = some q → q.n = p.n → (∀ k, k < j → ∀ q', l[k]? = some q' → q'.n ≠ p.n) → putP l p = l.set j ⟨q.n, p.v, p.b⟩
  | [], p, j, q, h, _, _ => by simp at h
  | x :: l, p, 0, q, h, e, _ => by
    simp at h
    subst h
    rw [putP, if_pos e]
    rfl
  | x :: l, p, j + 1, q, h, e, hn => by
    rw [putP, if_neg (hn 0 (by omega) x rfl), putP_at l p j q (by simpa using h) e (fun k hk q' hq => hn (k + 1) (by omega) q' (by simpa using hq))]
    rfl
theorem putP_end : ∀ (l : List Pt) (p : Pt), (∀ q ∈ l, q.n ≠ p.n) → putP l p = l ++ [p]
  | [], p, _ => rfl
  | x :: l, p, h => by
    rw [putP, if_neg (h x List.mem_cons_self), putP_end l p (fun q hq => h q (List.mem_cons_of_mem _ hq))]
    rfl
theorem putP_mem : ∀ (l : List Pt) (p q : Pt), q ∈ putP l p → q ∈ l ∨ (q.v = p.v ∧ q.b = p.b)
  | [], p, q, h => by
    rw [List.mem_singleton.1 h]
    exact .inr ⟨rfl, rfl⟩
  | x :: l, p, q, h => by
    rw [putP] at h
    split at h
    · rcases List.mem_cons.1 h with rfl | h
      · exact .inr ⟨rfl, rfl⟩
      · exact .inl (List.mem_cons_of_mem _ h)
    · rcases List.mem_cons.1 h with rfl | h
      · exact .inl List.mem_cons_self
      · rcases putP_mem l p q h with h1 | h1
        · exact .inl (List.mem_cons_of_mem _ h1)
        · exact .inr h1
theorem putP_len (l : List Pt) (p : Pt) : (putP l p).length ≤ l.length + 1 := by
  induction l with
  | nil => simp [putP]
  | cons x l ih =>
    rw [putP]
    split
    · simp
    · simp; omega
theorem ready_R (R : RS) (n : Int) : (R.out = true → R.readyE n = 10) ∧ (R.out = false → n < 0 ∨ R.many ≤ n → R.readyE n = 5) ∧ (R.out = false → ¬ (n < 0 ∨ R.many ≤ n) → R.readyE n = 0) := by
  unfold RS.readyE
  refine ⟨fun h => by rw [if_pos h], fun h h2 => by rw [if_neg (by rw [h]; decide), if_pos h2], fun h h2 => by rw [if_neg (by rw [h]; decide), if_neg h2]⟩
theorem stepR_same (R : RS) : (stepR R).firm = R.firm ∧ (stepR R).soft = R.soft ∧ (stepR R).many = R.many := by
  unfold stepR
  split <;> exact ⟨rfl, rfl, rfl⟩
set_option maxHeartbeats 8000000 in
set_option maxRecDepth 100000 in
theorem c_rwrite {w0 w : World} {Rs : List Res} (HP0 : Hp w0 w Rs) (i g : Nat) (R : RS) (ex : List Pt) (hi : Rs[i]? = some (rRef w0.heap.size g R ex)) (hls : R.soft.length ≤ 1000000) (n : Int) (A : Option Addr) (c : Nat) (b : List Int) (hbl : b.length ≤ 9223372036854775807) (hB : Rd (Kd.int .u8) w0 Rs i A b.length b) (hBy : Bytes b) :
    Calls Try.prog 35 #[.pointer (some ⟨g, 0, none⟩), .int .i64 n, .slice A b.length c] w fun e w' => e = .returned (.int .i64 (writeRE R n b)) ∧ ∃ v, Hp w0 w' (Rs.set i (rRef w0.heap.size g (writeR R n b v) ex)) := by
  have HH := Aside0.mk HP0
  have HI2 := Aside0.mk hi
  have HSELF := Aside0.mk (show Rs.set i (rRef w0.heap.size g R ex) = Rs from set_self hi)
  have HRY := Aside0.mk (ready_R R n)
  have HLS := Aside0.mk hls
  have HB := Aside0.mk hB
  have HBY := Aside0.mk hBy
  have HRB := Aside0.mk (stepR_same R)
  obtain ⟨v1, v2, ps, hm, HP1⟩ := Hp.openR HP0 i g R ex hi
  have hil : i < Rs.length := (List.getElem?_eq_some_iff.1 hi).1
  have HP := Aside0.mk HP1
  have HM := Aside0.mk hm
  have HI := Aside0.mk hil
  clear HP0 HP1 hm hil
  have hc0 : w.cell? ⟨g, 0, none⟩ = some (.int .i64 R.many) := blk_cell (HP.out.blk 0 rfl) 0
  have hc6 : w.cell? ⟨g, 6, none⟩ = some (.bool R.out) := blk_cell (HP.out.blk 0 rfl) 6
  have HWE : Aside0 (writeRE R n b = if R.readyE n ≠ 0 then R.readyE n else if b.length ≠ 64 then 2 else if stepB R = false then 10 else 0) := ⟨rfl⟩
  have HWR : Aside0 (∀ v, writeR R n b v = if R.readyE n ≠ 0 then R else if b.length ≠ 64 then R else if stepB R = false then stepR R else { stepR R with soft := (stepR R).soft ++ [⟨n, v, b⟩] }) := ⟨fun v => rfl⟩
  obtain ⟨o, ho⟩ : ∃ z, R.out = z := ⟨_, rfl⟩
  rw [ho] at hc6
  obtain ⟨m, hm⟩ : ∃ z, R.many = z := ⟨_, rfl⟩
  rw [hm] at hc0
  have HO := Aside0.mk ho
  have HMM := Aside0.mk hm
  obtain ⟨bl, hbl2⟩ : ∃ z, b.length = z := ⟨_, rfl⟩
  rw [hbl2] at HWE HWR hbl HB ⊢
  have HBL := Aside0.mk hbl2
  clear ho hm hbl2 hB hBy hls hi HP HM
  cases o with
  | true =>
    have HE := Aside0.mk (show writeRE R n b = 10 ∧ ∀ v, writeR R n b v = R from ⟨by rw [HWE.out, HRY.out.1 HO.out]; rfl, fun v => by rw [HWR.out, HRY.out.1 HO.out]; rfl⟩)
    go_enter Try.func35, Try.ntmps35
    go_wp2_with fail
    go_ret
    exact ⟨by rw [HE.out.1]; rfl, .nilFunc, by rw [HE.out.2, HSELF.out]; exact HH.out⟩
  | false =>
    by_cases c1 : n < 0
    · have d1 : decide (n < 0) = true := decide_eq_true c1
      have HE := Aside0.mk (show writeRE R n b = 5 ∧ ∀ v, writeR R n b v = R from ⟨by rw [HWE.out, HRY.out.2.1 HO.out (.inl c1)]; rfl, fun v => by rw [HWR.out, HRY.out.2.1 HO.out (.inl c1)]; rfl⟩)
      clear c1
      go_enter Try.func35, Try.ntmps35
      go_wp2_with fail
      go_ret
      exact ⟨by rw [HE.out.1]; rfl, .nilFunc, by rw [HE.out.2, HSELF.out]; exact HH.out⟩
    have d1 : decide (n < 0) = false := decide_eq_false c1
    by_cases c2 : m ≤ n
    · have d2 : decide (n ≥ m) = true := decide_eq_true c2
      have HE := Aside0.mk (show writeRE R n b = 5 ∧ ∀ v, writeR R n b v = R from ⟨by rw [HWE.out, HRY.out.2.1 HO.out (.inr (by rw [HMM.out]; exact c2))]; rfl, fun v => by rw [HWR.out, HRY.out.2.1 HO.out (.inr (by rw [HMM.out]; exact c2))]; rfl⟩)
      clear c1 c2
      go_enter Try.func35, Try.ntmps35
      go_wp2_with fail
      go_ret
      exact ⟨by rw [HE.out.1]; rfl, .nilFunc, by rw [HE.out.2, HSELF.out]; exact HH.out⟩
    have d2 : decide (n ≥ m) = false := decide_eq_false c2
    have HR0 := Aside0.mk (HRY.out.2.2 HO.out (by rw [HMM.out]; omega))
    by_cases c3 : bl = 64
    rotate_left
    · have d3 : ((bl : Int) != 64) = true := bne_iff_ne.2 (by omega)
      have HE := Aside0.mk (show writeRE R n b = 2 ∧ ∀ v, writeR R n b v = R from ⟨by rw [HWE.out, HR0.out, if_neg (by decide), if_pos c3], fun v => by rw [HWR.out, HR0.out, if_neg (by decide), if_pos c3]⟩)
      clear c1 c2 c3
      go_enter Try.func35, Try.ntmps35
      go_wp2_with fail
      go_ret
      exact ⟨by rw [HE.out.1]; rfl, .nilFunc, by rw [HE.out.2, HSELF.out]; exact HH.out⟩
    subst c3
    have d3 : ((((64 : Nat) : Int)) != 64) = false := by decide
    clear c1 c2
    go_enter Try.func35, Try.ntmps35
    go_wp2_with fail
    refine (c_rstep HH.out i g R ex HI2.out).mono ?_; rintro e w1 ⟨rfl, hpn⟩
    clear hc0 hc6 HH
    obtain ⟨sb, hsb⟩ : ∃ z, stepB R = z := ⟨_, rfl⟩
    rw [hsb] at HWE HWR ⊢
    clear hsb
    cases sb with
    | false =>
      have HE := Aside0.mk (show writeRE R n b = 10 ∧ ∀ v, writeR R n b v = stepR R from ⟨by rw [HWE.out, HR0.out]; rfl, fun v => by rw [HWR.out, HR0.out]; rfl⟩)
      go_wp2_with fail
      go_ret
      exact ⟨by rw [HE.out.1]; rfl, .nilFunc, by rw [HE.out.2]; exact hpn⟩
    | true =>
      have HE := Aside0.mk (show writeRE R n b = 0 ∧ ∀ v, writeR R n b v = { stepR R with soft := (stepR R).soft ++ [⟨n, v, b⟩] } from ⟨by rw [HWE.out, HR0.out]; rfl, fun v => by rw [HWR.out, HR0.out]; rfl⟩)
      obtain ⟨v1, v2, ps, hm, HP1⟩ := Hp.openR hpn i g (stepR R) ex (set_get _ HI.out)
      rw [List.set_set] at HP1
      have HSL := Aside0.mk (show (stepR R).soft.length ≤ 1000000 from by rw [HRB.out.2.1]; exact HLS.out)
      obtain ⟨T, hT⟩ : ∃ z, stepR R = z := ⟨_, rfl⟩
      rw [hT] at HE hm HP1 HSL
      have HM := Aside0.mk hm
      have HP := Aside0.mk HP1
      clear hpn hm HP1 hT
      obtain ⟨A2, c2, rfl⟩ := Kd.R_slice (HP.out.row 2 rfl)
      have HC := Aside0.mk (fun (w' : World) (h : Hp w0 w' (Rs.set i .none)) => HB.out w' .none h)
      go_wp2_with fail
      refine last_named (ds := [14]) (S := (fun w' => w'.cell? ⟨g, 2, none⟩ = some (.slice A2 T.soft.length c2))) (by kernel_rfl) (fun wd0 hwd0 => ?_)
      have HPn := Aside0.mk (HP.out.drewN 1)
      rw [← World.drew_is_drewN, hwd0] at HPn
      clear HP hwd0
      have HP := HPn
      clear HPn
      refine ⟨by (try dsimp only); first | exact blk_cell (HP.out.blk 0 rfl) 2 | exact blk_cell (HP.out.blk 1 rfl) 2 | exact blk_cell (HP.out.blk 2 rfl) 2, fun hHeld => ?_⟩
      refine wpAnyLast_take (i := 0) (oi := ({ dst := (some 31), op := (Op.move (Operand.tmp 0)), type := 50, pos := "ref.go:88", after := #[], guard := none } : Oper)) (v := ?_) rfl (by kernel_rfl) (by kernel_rfl) (by kernel_rfl) (by kernel_rfl) (by kernel_rfl) (fun _ _ _ h => h) (Or.inl ⟨by rfl, ?_⟩) hHeld ?_
      rotate_left
      · intro w_ hSw; (try dsimp only at hSw); go_simp; try (with_reducible rfl)
      try simp only [Act.put, List.setIfInBounds_toArray, List.set_cons_zero, List.set_cons_succ]
      refine wpAnyLast_take (i := 1) (oi := ({ dst := (some 32), op := (Op.move (Operand.tmp 0)), type := 50, pos := "ref.go:88", after := #[], guard := none } : Oper)) (v := ?_) rfl (by kernel_rfl) (by kernel_rfl) (by kernel_rfl) (by kernel_rfl) (by kernel_rfl) (fun _ _ _ h => h) (Or.inl ⟨by rfl, ?_⟩) hHeld ?_
      rotate_left
      · intro w_ hSw; (try dsimp only at hSw); go_simp; try (with_reducible rfl)
      try simp only [Act.put, List.setIfInBounds_toArray, List.set_cons_zero, List.set_cons_succ]
      refine wpAnyLast_take (i := 2) (oi := ({ dst := (some 33), op := (Op.nilCheck (Operand.tmp 32)), type := 0, pos := "ref.go:88", after := #[{ on := 1, ground := Ground.data }], guard := none } : Oper)) (v := ?_) rfl (by kernel_rfl) (by kernel_rfl) (by kernel_rfl) (by kernel_rfl) (by kernel_rfl) (fun _ _ _ h => h) (Or.inl ⟨by rfl, ?_⟩) hHeld ?_
      rotate_left
      · intro w_ hSw; (try dsimp only at hSw); go_simp; try (with_reducible rfl)
      try simp only [Act.put, List.setIfInBounds_toArray, List.set_cons_zero, List.set_cons_succ]
      refine wpAnyLast_take (i := 3) (oi := ({ dst := (some 34), op := (Op.fieldAddr 56 (Operand.tmp 33) 2), type := 0, pos := "ref.go:88", after := #[{ on := 2, ground := Ground.data }], guard := none } : Oper)) (v := ?_) rfl (by kernel_rfl) (by kernel_rfl) (by kernel_rfl) (by kernel_rfl) (by kernel_rfl) (fun _ _ _ h => h) (Or.inl ⟨by rfl, ?_⟩) hHeld ?_
      rotate_left
      · intro w_ hSw; (try dsimp only at hSw); go_simp; try (with_reducible rfl)
      try simp only [Act.put, List.setIfInBounds_toArray, List.set_cons_zero, List.set_cons_succ]
      refine wpAnyLast_take (i := 4) (oi := ({ dst := (some 35), op := (Op.load 54 (Operand.tmp 34)), type := 54, pos := "ref.go:88", after := #[{ on := 3, ground := Ground.data }], guard := none } : Oper)) (v := ?_) rfl (by kernel_rfl) (by kernel_rfl) (by kernel_rfl) (by kernel_rfl) (by kernel_rfl) (fun _ _ _ h => h) (Or.inl ⟨by rfl, ?_⟩) hHeld ?_
      rotate_left
      · intro w_ hSw; (try dsimp only at hSw); go_simp; try (with_reducible rfl)
      try simp only [Act.put, List.setIfInBounds_toArray, List.set_cons_zero, List.set_cons_succ]
      refine wpAnyLast_take (i := 5) (oi := ({ dst := (some 36), op := (Op.move (Operand.tmp 1)), type := 3, pos := "ref.go:88", after := #[], guard := none } : Oper)) (v := ?_) rfl (by kernel_rfl) (by kernel_rfl) (by kernel_rfl) (by kernel_rfl) (by kernel_rfl) (fun _ _ _ h => h) (Or.inl ⟨by rfl, ?_⟩) hHeld ?_
      rotate_left
      · intro w_ hSw; (try dsimp only at hSw); go_simp; try (with_reducible rfl)
      try simp only [Act.put, List.setIfInBounds_toArray, List.set_cons_zero, List.set_cons_succ]
      refine wpAnyLast_take (i := 7) (oi := ({ dst := (some 38), op := (Op.move (Operand.tmp 2)), type := 27, pos := "ref.go:88", after := #[], guard := none } : Oper)) (v := ?_) rfl (by kernel_rfl) (by kernel_rfl) (by kernel_rfl) (by kernel_rfl) (by kernel_rfl) (fun _ _ _ h => h) (Or.inl ⟨by rfl, ?_⟩) hHeld ?_
      rotate_left
      · intro w_ hSw; (try dsimp only at hSw); go_simp; try (with_reducible rfl)
      try simp only [Act.put, List.setIfInBounds_toArray, List.set_cons_zero, List.set_cons_succ]
      refine wpAnyLast_ready (rs := [6]) (by kernel_rfl) (by simp) ?_
      refine AllReadyL.cons (o := ({ dst := (some 37), op := (Op.buildSlice 27 0 #[]), type := 27, pos := "ref.go:88", after := #[], guard := none } : Oper)) rfl (by decide) (fun K hK => ?_) AllReadyL.nil
      refine st_run (by rfl) (w1 := wd0.alloc (.cells #[] 5 (0, 0))) (v := .slice (some ⟨wd0.heap.size, 0, none⟩) 0 0) ?hr6 ?_; (case hr6 => first | (go_simp; done) | (go_simp; rfl)); have HPn := Aside0.mk (show Hp w0 (wd0.alloc (.cells #[] 5 (0, 0))) (.row (Kd.int .u8) 5 w0.heap.size (.slice (some ⟨wd0.heap.size, 0, none⟩) 0 0) [] :: _) from HP.out.lit 5 (d := Kd.int .u8) (xs := []) (inner := []) (reps_ints .u8 _ _ []) (by decide)); clear HP; have HP := HPn; clear HPn; obtain ⟨w6, hw6⟩ : ∃ z, wd0.alloc (.cells #[] 5 (0, 0)) = z := ⟨_, rfl⟩; obtain ⟨A0, hA0⟩ : ∃ z : Option Addr, some ⟨wd0.heap.size, 0, none⟩ = z := ⟨_, rfl⟩; rw [hw6, hA0] at HP; rw [hw6, hA0]; clear hw6 hA0
      clear hHeld
      refine hK.out _ _ ?_ (fun hHeld => ?_)
      · (try dsimp only); first | exact blk_cell (HP.out.blk 0 rfl) 2 | exact blk_cell (HP.out.blk 1 rfl) 2 | exact blk_cell (HP.out.blk 2 rfl) 2
      clear hK K
      try simp only [Act.put, List.setIfInBounds_toArray, List.set_cons_zero, List.set_cons_succ]
      refine wpAnyLast_ready (rs := [8]) (by kernel_rfl) (by simp) ?_
      refine AllReadyL.cons (o := ({ dst := (some 39), op := (Op.call { callee := (Callee.builtin Builtin.append), args := #[(Operand.tmp 37), (Operand.tmp 38)], argTypes := #[27, 27] }), type := 27, pos := "ref.go:88", after := #[{ on := 6, ground := Ground.data }, { on := 7, ground := Ground.data }], guard := none } : Oper)) rfl (by decide) (fun K hK => ?_) AllReadyL.nil
      refine st_append (plain_int .u8) HP.out 0 (by rfl) (.tmp 37) (.tmp 38) 27 5 (.int .u8 0) 1 (by rfl) Try.underlying27 info5 rfl (by decide) (by decide) (.slice A0 0 0) [] b A 64 c (by rfl) (by rfl) rfl (HC.out _ (Hp.dropN [_, _, _, _, _] HP.out)) (by decide) ?_; intro v_n wq hpn; clear HP; have HP := Aside0.mk hpn; clear hpn; rw [List.nil_append] at HP; obtain ⟨A_n, c_n, rfl⟩ := Kd.R_slice (HP.out.row 0 rfl); rw [HBL.out] at HP; (try rw [HBL.out]); (try rw [List.set_cons_zero] at HP)
      clear hHeld
      refine hK.out _ _ ?_ (fun hHeld => ?_)
      · (try dsimp only); first | exact blk_cell (HP.out.blk 0 rfl) 2 | exact blk_cell (HP.out.blk 1 rfl) 2 | exact blk_cell (HP.out.blk 2 rfl) 2
      clear hK K
      try simp only [Act.put, List.setIfInBounds_toArray, List.set_cons_zero, List.set_cons_succ]
      refine wpAnyLast_take (i := 9) (oi := ({ dst := (some 40), op := (Op.build 77 #[(0, (Operand.tmp 36)), (1, (Operand.tmp 39))]), type := 77, pos := "ref.go:88", after := #[{ on := 5, ground := Ground.data }, { on := 8, ground := Ground.data }], guard := none } : Oper)) (v := ?_) rfl (by kernel_rfl) (by kernel_rfl) (by kernel_rfl) (by kernel_rfl) (by kernel_rfl) (fun _ _ _ h => h) (Or.inl ⟨by rfl, ?_⟩) hHeld ?_
      rotate_left
      · intro w_ hSw; (try dsimp only at hSw); go_simp; try (with_reducible rfl)
      try simp only [Act.put, List.setIfInBounds_toArray, List.set_cons_zero, List.set_cons_succ]
      refine wpAnyLast_ready (rs := [10]) (by kernel_rfl) (by simp) ?_
      refine AllReadyL.cons (o := ({ dst := (some 41), op := (Op.buildSlice 54 1 #[(0, (Operand.tmp 40))]), type := 54, pos := "ref.go:88", after := #[{ on := 9, ground := Ground.data }], guard := none } : Oper)) rfl (by decide) (fun K hK => ?_) AllReadyL.nil
      go_simp; have HPn := Aside0.mk (HP.out.alloc (.cells #[.int .i64 n, .slice A_n 64 c_n] 77 (0, 0))); clear HP; have HP := HPn; clear HPn; obtain ⟨wx, hwx⟩ : ∃ z, wq.alloc (.cells #[.int .i64 n, .slice A_n 64 c_n] 77) = z := ⟨_, rfl⟩; obtain ⟨gx, hgx⟩ : ∃ z, wq.heap.size = z := ⟨_, rfl⟩; rw [show wq.alloc (.cells #[.int .i64 n, .slice A_n 64 c_n] 77 (0, 0)) = wx from hwx, hgx] at HP; rw [show wq.alloc (.cells #[.int .i64 n, .slice A_n 64 c_n] 77 (0, 0)) = wx from hwx, hgx]; clear hwx hgx
      clear hHeld
      refine hK.out _ _ ?_ (fun hHeld => ?_)
      · (try dsimp only); first | exact blk_cell (HP.out.blk 0 rfl) 2 | exact blk_cell (HP.out.blk 1 rfl) 2 | exact blk_cell (HP.out.blk 2 rfl) 2
      clear hK K
      try simp only [Act.put, List.setIfInBounds_toArray, List.set_cons_zero, List.set_cons_succ]
      refine wpAnyLast_ready (rs := [11]) (by kernel_rfl) (by simp) ?_
      refine AllReadyL.cons (o := ({ dst := (some 42), op := (Op.call { callee := (Callee.builtin Builtin.append), args := #[(Operand.tmp 35), (Operand.tmp 41)], argTypes := #[54, 54] }), type := 54, pos := "ref.go:88", after := #[{ on := 4, ground := Ground.data }, { on := 10, ground := Ground.data }, { on := 8, ground := Ground.chain }], guard := none } : Oper)) rfl (by decide) (fun K hK => ?_) AllReadyL.nil
      refine st_append plain_KPt HP.out 4 (by rfl) (.tmp 35) (.tmp 41) 54 77 _ 32 (by rfl) Try.underlying54 infoKPt rfl (by decide) (by decide) (.slice A2 T.soft.length c2) T.soft [⟨n, .slice A_n 64 c_n, b⟩] (some ⟨gx, 0, none⟩) 1 1 (by rfl) (by rfl) rfl (C_blk1 KPt (HP.out.blk 0 rfl) ⟨rfl, rfl⟩) (by have := HSL.out; omega) ?_; intro v_m wz hpn; clear HP; have HP := Aside0.mk hpn; clear hpn; obtain ⟨A_m, c_m, rfl⟩ := Kd.R_slice (HP.out.row 4 rfl); simp only [List.length_append, List.length_cons, List.length_nil, Nat.zero_add] at HP; (try simp only [List.length_append, List.length_cons, List.length_nil, Nat.zero_add])
      clear hHeld
      refine hK.out _ _ ?_ (fun hHeld => ?_)
      · (try dsimp only); first | exact blk_cell (HP.out.blk 0 rfl) 2 | exact blk_cell (HP.out.blk 1 rfl) 2 | exact blk_cell (HP.out.blk 2 rfl) 2
      clear hK K
      try simp only [Act.put, List.setIfInBounds_toArray, List.set_cons_zero, List.set_cons_succ]
      refine wpAnyLast_take (i := 12) (oi := ({ dst := (some 43), op := (Op.nilCheck (Operand.tmp 31)), type := 0, pos := "ref.go:88", after := #[{ on := 0, ground := Ground.data }, { on := 0, ground := Ground.phase }, { on := 1, ground := Ground.phase }, { on := 2, ground := Ground.phase }, { on := 3, ground := Ground.phase }, { on := 4, ground := Ground.phase }, { on := 5, ground := Ground.phase }, { on := 6, ground := Ground.phase }, { on := 7, ground := Ground.phase }, { on := 8, ground := Ground.phase }, { on := 9, ground := Ground.phase }, { on := 10, ground := Ground.phase }, { on := 11, ground := Ground.phase }], guard := none } : Oper)) (v := ?_) rfl (by kernel_rfl) (by kernel_rfl) (by kernel_rfl) (by kernel_rfl) (by kernel_rfl) (fun _ _ _ h => h) (Or.inl ⟨by rfl, ?_⟩) hHeld ?_
      rotate_left
      · intro w_ hSw; (try dsimp only at hSw); go_simp; try (with_reducible rfl)
      try simp only [Act.put, List.setIfInBounds_toArray, List.set_cons_zero, List.set_cons_succ]
      refine wpAnyLast_take (i := 13) (oi := ({ dst := (some 44), op := (Op.fieldAddr 56 (Operand.tmp 43) 2), type := 0, pos := "ref.go:88", after := #[{ on := 12, ground := Ground.data }, { on := 0, ground := Ground.phase }, { on := 1, ground := Ground.phase }, { on := 2, ground := Ground.phase }, { on := 3, ground := Ground.phase }, { on := 4, ground := Ground.phase }, { on := 5, ground := Ground.phase }, { on := 6, ground := Ground.phase }, { on := 7, ground := Ground.phase }, { on := 8, ground := Ground.phase }, { on := 9, ground := Ground.phase }, { on := 10, ground := Ground.phase }, { on := 11, ground := Ground.phase }], guard := none } : Oper)) (v := ?_) rfl (by kernel_rfl) (by kernel_rfl) (by kernel_rfl) (by kernel_rfl) (by kernel_rfl) (fun _ _ _ h => h) (Or.inl ⟨by rfl, ?_⟩) hHeld ?_
      rotate_left
      · intro w_ hSw; (try dsimp only at hSw); go_simp; try (with_reducible rfl)
      try simp only [Act.put, List.setIfInBounds_toArray, List.set_cons_zero, List.set_cons_succ]
      refine wpAnyLast_ready (rs := [14]) (by kernel_rfl) (by simp) ?_
      refine AllReadyL.cons_last (o := ({ dst := none, op := (Op.store 54 (Operand.tmp 44) (Operand.tmp 42)), type := 0, pos := "ref.go:88", after := #[{ on := 13, ground := Ground.data }, { on := 11, ground := Ground.data }, { on := 11, ground := Ground.chain }, { on := 0, ground := Ground.phase }, { on := 1, ground := Ground.phase }, { on := 2, ground := Ground.phase }, { on := 3, ground := Ground.phase }, { on := 4, ground := Ground.phase }, { on := 5, ground := Ground.phase }, { on := 6, ground := Ground.phase }, { on := 7, ground := Ground.phase }, { on := 8, ground := Ground.phase }, { on := 9, ground := Ground.phase }, { on := 10, ground := Ground.phase }, { on := 11, ground := Ground.phase }], guard := none } : Oper)) rfl (by decide) (fun K hK => ?_) AllReadyL.nil
      have hcS := blk_cell (HP.out.blk 2 rfl) 2; have hfS := blk_frozen (HP.out.blk 2 rfl) 2; go_simp; have HPn := Aside0.mk (HP.out.setCell 2 rfl 2 (.slice A_m (T.soft.length + 1) c_m)); clear HP hcS hfS; have HP := HPn; clear HPn
      clear hHeld
      refine hK.out _ _ ?_
      clear hK K
      try simp only [Act.put, List.setIfInBounds_toArray, List.set_cons_zero, List.set_cons_succ]
      refine wpAnyLast_done (by kernel_rfl) ?_ _
      have HPF := Aside0.mk (show Hp w0 _ (Rs.set i (rRef w0.heap.size g { T with soft := T.soft ++ [⟨n, .slice A_n 64 c_n, b⟩] } ex)) from by
        have h1 := HP.out.drop1
        have h2 := Hp.join h1 3 rfl
        exact Hp.closeR { T with soft := T.soft ++ [⟨n, .slice A_n 64 c_n, b⟩] } ex (ps := (.slice A_n 64 c_n, b) :: ps) (fun p hp => by
          have hp2 : p ∈ T.firm ++ (T.soft ++ ex) ∨ p = ⟨n, .slice A_n 64 c_n, b⟩ := by
            simp only [List.mem_append, List.mem_singleton] at hp ⊢
            rcases hp with h | (h | h) | h
            · exact .inl (.inl h)
            · exact .inl (.inr (.inl h))
            · exact .inr h
            · exact .inl (.inr (.inr h))
          rcases hp2 with h | rfl
          · obtain ⟨k1, k2, k3⟩ := HM.out p h
            exact ⟨List.mem_cons_of_mem _ k1, k2, k3⟩
          · exact ⟨List.mem_cons_self, HBL.out, HBY.out⟩) HI.out h2)
      clear HP
      go_wp2_with fail
      go_ret
      exact ⟨by rw [HE.out.1]; rfl, .slice A_n 64 c_n, by rw [HE.out.2]; exact HPF.out⟩
end Go.Proofs.Ytejfocliopbocaa.Su
namespace Go.Proofs.Ytejfocliopbocaa.Su
open Go.Proofs.Ytejfocliopbocaa.H
open Go.RowKit Go.Proofs.Ytejfocliopbocaa.XD Go.Proofs.YtejfocliopbocaaW.PrintWords Go.Proofs.YtejfocliopbocaaW.PrintLast Go.Proofs.YtejfocliopbocaaW.PrintMore Go.Proofs.YtejfocliopbocaaXe Go.Proofs.YtejfocliopbocaaXs
set_option linter.unusedVariables false
set_option linter.unusedSimpArgs false
attribute [local go_sem ↓] Go.wp_at_zero Go.wp_at_succ
open Go.Proofs.Ytejfocliopbocaa.D hiding c_len c_new c_write
theorem R_own0 {W : World} {e base n cap : Nat} {A : Option Addr} {ok : Nat → Prop} {xs : List Pt} (h : KPt.R e W base ok (.slice A n cap) xs) (hn : 0 < n) : ∃ g, A = some ⟨g, 0, none⟩ := by
  obtain ⟨_, inner, ho, _⟩ := h
  rcases ho.2 with ⟨h', h''⟩ | ⟨g', cap', cur, h', _⟩
  · simp at h'; omega
  · simp at h'; exact ⟨g', h'.1⟩
theorem R_frozP {W : World} {e base n cap g : Nat} {ok : Nat → Prop} {xs : List Pt} (h : KPt.R e W base ok (.slice (some ⟨g, 0, none⟩) n cap) xs) (j : Nat) : W.frozen? ⟨g, j, none⟩ = false := by
  obtain ⟨_, inner, ho, _⟩ := h
  have hn : n = xs.length := by
    rcases ho.2 with ⟨h', h''⟩ | ⟨g', cap', cur, h', _⟩
    · simp at h'
    · simp at h'; exact h'.2.1
  subst hn
  exact ho.frozenAt j
set_option maxHeartbeats 8000000 in
set_option maxRecDepth 100000 in
theorem c_rfirm {w0 w : World} {Rs : List Res} (HP0 : Hp w0 w Rs) (i g : Nat) (R : RS) (ex : List Pt) (hi : Rs[i]? = some (rRef w0.heap.size g R ex)) (hlf : R.firm.length ≤ 1000000) (p : Pt) (hp : p ∈ R.firm ++ (R.soft ++ ex)) :
    Calls Try.prog 46 #[.pointer (some ⟨g, 0, none⟩), .agg #[.int .i64 p.n, p.v]] w fun e w' => e = .returned (.tuple #[]) ∧ Hp w0 w' (Rs.set i (rRef w0.heap.size g { R with firm := putP R.firm p } ex)) := by
  obtain ⟨v1, v2, ps, hm, HP1⟩ := Hp.openR HP0 i g R ex hi
  have hil : i < Rs.length := (List.getElem?_eq_some_iff.1 hi).1
  have HP := Aside0.mk HP1
  have HM := Aside0.mk hm
  have HI := Aside0.mk hil
  clear HP0 HP1 hm hil
  obtain ⟨A1, c1, rfl⟩ := Kd.R_slice (HP.out.row 1 rfl)
  have HPM := Aside0.mk (HM.out p hp)
  obtain ⟨Ap, cp, epv, _, _⟩ := pool_C HP.out 3 rfl (HM.out p hp)
  have HV1 := Aside0.mk (show p.v.oneCell' = true from by rw [epv]; rfl)
  have HLF := Aside0.mk hlf
  have HCL := Aside0.mk (fun (w' : World) (v1 : Value) (ps' : List (Value × List Int)) (h : ∀ q ∈ putP R.firm p, inP ps q) => (show ∀ q ∈ putP R.firm p ++ (R.soft ++ ex), inP ps q from fun q hq => by
    rcases List.mem_append.1 hq with h1 | h1
    · exact h q h1
    · exact HM.out q (List.mem_append_right _ h1)))
  have HIN := Aside0.mk (show ∀ q ∈ putP R.firm p ++ (R.soft ++ ex), inP ps q from fun q hq => by
    rcases List.mem_append.1 hq with h1 | h1
    · rcases putP_mem R.firm p q h1 with h2 | ⟨h2, h3⟩
      · exact HM.out q (List.mem_append_left _ h2)
      · have h4 := HM.out p hp
        unfold inP at h4 ⊢
        rw [h2, h3]
        exact h4
    · exact HM.out q (List.mem_append_right _ h1))
  obtain ⟨pv, hpv⟩ : ∃ z, p.v = z := ⟨_, rfl⟩
  have HPV := Aside0.mk hpv
  rw [hpv] at HV1 epv ⊢
  subst epv
  obtain ⟨pn, hpn_⟩ : ∃ z, p.n = z := ⟨_, rfl⟩
  have HPN := Aside0.mk hpn_
  rw [hpn_]
  obtain ⟨F, hF⟩ : ∃ z, R.firm = z := ⟨_, rfl⟩
  have HFE := Aside0.mk hF
  rw [hF] at HP HLF HIN ⊢
  clear hi hp HM hlf HCL hpv hpn_ hF
  go_enter Try.func46, Try.ntmps46
  go_wp2_with (first | ((with_reducible refine gate_dst (N := 3) rfl ?_); refine ev_box rfl 77 (.tmp 1) rfl (#[.int .i64 pn, .slice Ap 64 cp]) rfl ?_; intro b0 w1 hge hg hb; have HPn := Aside0.mk (HP.out.newB hb hg hge); clear HP; have HP := HPn; clear HPn; clear hge hg hb))
  go_loopg [4] (F.length + 1) (fun kq v4 w' => ∃ (j : Nat) (x : Int), v4 = .int .i64 x ∧ Aside0 (x = (j : Int)) ∧ Aside0 (kq + j = F.length + 1) ∧ Aside0 (∀ k, k < j → ∀ q', F[k]? = some q' → q'.n ≠ p.n) ∧ Aside0 (Hp w0 w' (.blk b0 (.cells #[.int .i64 pn, .slice Ap 64 cp] 77 (0, 0)) :: .blk g (.cells (refC R (.slice A1 F.length c1) v2).toArray 56 (0, 0)) :: .row KPt 77 w0.heap.size (.slice A1 F.length c1) F :: .row KPt 77 w0.heap.size v2 R.soft :: .all (poolL w0.heap.size ps) :: Rs.set i .none)))
  case atStart => exact ⟨0, 0, rfl, ⟨rfl⟩, ⟨rfl⟩, ⟨fun k hk => absurd hk (by omega)⟩, HP⟩
  clear HP
  obtain ⟨j, x, rfl, HX, HK, HN, HP⟩ := hrel
  have hx := HX.out
  have hk := HK.out
  have hm := HLF.out
  have hc1 := (blk_cell (HP.out.blk 1 rfl) 1).trans (show _ = some (Value.slice A1 F.length c1) from rfl)
  by_cases c1_ : j < F.length
  · have d1 : decide (x < (F.length : Int)) = true := decide_eq_true (by omega)
    have ex_ := i64k (x := x + 1) rfl (by omega)
    obtain ⟨q, hq⟩ : ∃ q, F[j]? = some q := ⟨_, List.getElem?_eq_getElem c1_⟩
    obtain ⟨gr, rfl⟩ := R_own0 (HP.out.row 2 rfl) (by omega)
    have HC := Aside0.mk (fun (w' : World) (h : Hp w0 w' (.blk b0 (.cells #[.int .i64 pn, .slice Ap 64 cp] 77 (0, 0)) :: .blk g (.cells (refC R (.slice (some ⟨gr, 0, none⟩) F.length c1) v2).toArray 56 (0, 0)) :: .row KPt 77 w0.heap.size (.slice (some ⟨gr, 0, none⟩) F.length c1) F :: .row KPt 77 w0.heap.size v2 R.soft :: .all (poolL w0.heap.size ps) :: Rs.set i .none)) => cellsP (Kd.R_reads' (h.row 2 rfl)).2.2 hq)
    have hxj : x.toNat = j := by omega
    have p0 : 0 ≤ x := by omega
    have q0 : x < (F.length : Int) := by omega
    rw [← hxj, Nat.zero_add] at HC
    have HJ := Aside0.mk (And.intro c1_ (And.intro hxj hq))
    clear hx hk hm c1_ hxj hq
    go_wp2_with fail
    clear hc1
    refine held_named (S := (fun w' => w'.cell? ⟨g, 1, none⟩ = some (.slice (some ⟨gr, 0, none⟩) F.length c1) ∧ w'.cell? ⟨gr, x.toNat * 2, none⟩ = some (.int .i64 q.n) ∧ w'.cell? ⟨b0, 0, none⟩ = some (.int .i64 pn))) (by kernel_rfl) (fun wd0 hwd0 => ?_)
    have HPn := Aside0.mk (HP.out.drewN 1)
    rw [← World.drew_is_drewN, hwd0] at HPn
    clear HP hwd0
    have HP := HPn
    clear HPn
    refine ⟨by (try dsimp only); exact ⟨blk_cell (HP.out.blk 1 rfl) 1, (HC.out _ HP.out).1, blk_cell (HP.out.blk 0 rfl) 0⟩, fun hHeld => ?_⟩
    refine wpAnyH_take (i := 0) (oi := ({ dst := (some 14), op := (Op.move (Operand.tmp 0)), type := 50, pos := "ref.go:95", after := #[], guard := none } : Oper)) (v := ?_) rfl (by kernel_rfl) (by kernel_rfl) (by kernel_rfl) (fun _ _ _ h => h) (Or.inl ⟨by rfl, ?_⟩) hHeld ?_
    rotate_left
    · intro w_ hSw; (try dsimp only at hSw); go_simp; try (with_reducible rfl)
    try simp only [Act.put, List.setIfInBounds_toArray, List.set_cons_zero, List.set_cons_succ]
    refine wpAnyH_take (i := 1) (oi := ({ dst := (some 15), op := (Op.nilCheck (Operand.tmp 14)), type := 0, pos := "ref.go:95", after := #[{ on := 0, ground := Ground.data }], guard := none } : Oper)) (v := ?_) rfl (by kernel_rfl) (by kernel_rfl) (by kernel_rfl) (fun _ _ _ h => h) (Or.inl ⟨by rfl, ?_⟩) hHeld ?_
    rotate_left
    · intro w_ hSw; (try dsimp only at hSw); go_simp; try (with_reducible rfl)
    try simp only [Act.put, List.setIfInBounds_toArray, List.set_cons_zero, List.set_cons_succ]
    refine wpAnyH_take (i := 2) (oi := ({ dst := (some 16), op := (Op.fieldAddr 56 (Operand.tmp 15) 1), type := 0, pos := "ref.go:95", after := #[{ on := 1, ground := Ground.data }], guard := none } : Oper)) (v := ?_) rfl (by kernel_rfl) (by kernel_rfl) (by kernel_rfl) (fun _ _ _ h => h) (Or.inl ⟨by rfl, ?_⟩) hHeld ?_
    rotate_left
    · intro w_ hSw; (try dsimp only at hSw); go_simp; try (with_reducible rfl)
    try simp only [Act.put, List.setIfInBounds_toArray, List.set_cons_zero, List.set_cons_succ]
    refine wpAnyH_take (i := 3) (oi := ({ dst := (some 17), op := (Op.load 54 (Operand.tmp 16)), type := 54, pos := "ref.go:95", after := #[{ on := 2, ground := Ground.data }], guard := none } : Oper)) (v := ?_) rfl (by kernel_rfl) (by kernel_rfl) (by kernel_rfl) (fun _ _ _ h => h) (Or.inl ⟨by rfl, ?_⟩) hHeld ?_
    rotate_left
    · intro w_ hSw; (try dsimp only at hSw); go_simp; try (with_reducible rfl)
    try simp only [Act.put, List.setIfInBounds_toArray, List.set_cons_zero, List.set_cons_succ]
    refine wpAnyH_take (i := 4) (oi := ({ dst := (some 18), op := (Op.move (Operand.tmp 4)), type := 3, pos := "ref.go:95", after := #[], guard := none } : Oper)) (v := ?_) rfl (by kernel_rfl) (by kernel_rfl) (by kernel_rfl) (fun _ _ _ h => h) (Or.inl ⟨by rfl, ?_⟩) hHeld ?_
    rotate_left
    · intro w_ hSw; (try dsimp only at hSw); go_simp; try (with_reducible rfl)
    try simp only [Act.put, List.setIfInBounds_toArray, List.set_cons_zero, List.set_cons_succ]
    refine wpAnyH_take (i := 5) (oi := ({ dst := (some 19), op := (Op.indexAddr 54 (Operand.tmp 17) (Operand.tmp 18)), type := 0, pos := "ref.go:95", after := #[{ on := 3, ground := Ground.data }, { on := 4, ground := Ground.data }], guard := none } : Oper)) (v := ?_) rfl (by kernel_rfl) (by kernel_rfl) (by kernel_rfl) (fun _ _ _ h => h) (Or.inl ⟨by rfl, ?_⟩) hHeld ?_
    rotate_left
    · intro w_ hSw; (try dsimp only at hSw); go_simp; try (with_reducible rfl)
    try simp only [Act.put, List.setIfInBounds_toArray, List.set_cons_zero, List.set_cons_succ]
    refine wpAnyH_take (i := 6) (oi := ({ dst := (some 20), op := (Op.fieldAddr 77 (Operand.tmp 19) 0), type := 0, pos := "ref.go:95", after := #[{ on := 5, ground := Ground.data }], guard := none } : Oper)) (v := ?_) rfl (by kernel_rfl) (by kernel_rfl) (by kernel_rfl) (fun _ _ _ h => h) (Or.inl ⟨by rfl, ?_⟩) hHeld ?_
    rotate_left
    · intro w_ hSw; (try dsimp only at hSw); go_simp; try (with_reducible rfl)
    try simp only [Act.put, List.setIfInBounds_toArray, List.set_cons_zero, List.set_cons_succ]
    refine wpAnyH_take (i := 7) (oi := ({ dst := (some 21), op := (Op.load 3 (Operand.tmp 20)), type := 3, pos := "ref.go:95", after := #[{ on := 6, ground := Ground.data }], guard := none } : Oper)) (v := ?_) rfl (by kernel_rfl) (by kernel_rfl) (by kernel_rfl) (fun _ _ _ h => h) (Or.inl ⟨by rfl, ?_⟩) hHeld ?_
    rotate_left
    · intro w_ hSw; (try dsimp only at hSw); go_simp; try (with_reducible rfl)
    try simp only [Act.put, List.setIfInBounds_toArray, List.set_cons_zero, List.set_cons_succ]
    refine wpAnyH_take (i := 8) (oi := ({ dst := (some 22), op := (Op.fieldAddr 77 (Operand.tmp 3) 0), type := 0, pos := "ref.go:95", after := #[], guard := none } : Oper)) (v := ?_) rfl (by kernel_rfl) (by kernel_rfl) (by kernel_rfl) (fun _ _ _ h => h) (Or.inl ⟨by rfl, ?_⟩) hHeld ?_
    rotate_left
    · intro w_ hSw; (try dsimp only at hSw); go_simp; try (with_reducible rfl)
    try simp only [Act.put, List.setIfInBounds_toArray, List.set_cons_zero, List.set_cons_succ]
    refine wpAnyH_take (i := 9) (oi := ({ dst := (some 23), op := (Op.load 3 (Operand.tmp 22)), type := 3, pos := "ref.go:95", after := #[{ on := 8, ground := Ground.data }], guard := none } : Oper)) (v := ?_) rfl (by kernel_rfl) (by kernel_rfl) (by kernel_rfl) (fun _ _ _ h => h) (Or.inl ⟨by rfl, ?_⟩) hHeld ?_
    rotate_left
    · intro w_ hSw; (try dsimp only at hSw); go_simp; try (with_reducible rfl)
    try simp only [Act.put, List.setIfInBounds_toArray, List.set_cons_zero, List.set_cons_succ]
    refine wpAnyH_take (i := 10) (oi := ({ dst := (some 24), op := (Op.binOp BinOp.eql 3 (Operand.tmp 21) (Operand.tmp 23) 3), type := 4, pos := "ref.go:95", after := #[{ on := 7, ground := Ground.data }, { on := 9, ground := Ground.data }], guard := none } : Oper)) (v := ?_) rfl (by kernel_rfl) (by kernel_rfl) (by kernel_rfl) (fun _ _ _ h => h) (Or.inl ⟨by rfl, ?_⟩) hHeld ?_
    rotate_left
    · intro w_ hSw; (try dsimp only at hSw); go_simp; try (with_reducible rfl)
    try simp only [Act.put, List.setIfInBounds_toArray, List.set_cons_zero, List.set_cons_succ]
    refine wpAnyH_done (by kernel_rfl) ?_ _
    clear hHeld
    by_cases c2 : q.n = pn
    · have d2 : (q.n == pn) = true := beq_iff_eq.2 c2
      have HPE := Aside0.mk (show putP F p = F.set j ⟨q.n, p.v, p.b⟩ from putP_at F p j q HJ.out.2.2 (by rw [HPN.out]; exact c2) HN.out)
      clear c2
      go_wp2_with fail
      refine last_named (ds := [9]) (S := (fun w' => w'.cell? ⟨g, 1, none⟩ = some (.slice (some ⟨gr, 0, none⟩) F.length c1) ∧ w'.cell? ⟨b0, 1, none⟩ = some (.slice Ap 64 cp))) (by kernel_rfl) (fun wd5 hwd5 => ?_)
      have HPn := Aside0.mk (HP.out.drewN 1)
      rw [← World.drew_is_drewN, hwd5] at HPn
      clear HP hwd5
      have HP := HPn
      clear HPn
      refine ⟨by (try dsimp only); exact ⟨blk_cell (HP.out.blk 1 rfl) 1, blk_cell (HP.out.blk 0 rfl) 1⟩, fun hHeld => ?_⟩
      refine wpAnyLast_take (i := 0) (oi := ({ dst := (some 25), op := (Op.move (Operand.tmp 0)), type := 50, pos := "ref.go:96", after := #[], guard := none } : Oper)) (v := ?_) rfl (by kernel_rfl) (by kernel_rfl) (by kernel_rfl) (by kernel_rfl) (by kernel_rfl) (fun _ _ _ h => h) (Or.inl ⟨by rfl, ?_⟩) hHeld ?_
      rotate_left
      · intro w_ hSw; (try dsimp only at hSw); go_simp; try (with_reducible rfl)
      try simp only [Act.put, List.setIfInBounds_toArray, List.set_cons_zero, List.set_cons_succ]
      refine wpAnyLast_take (i := 1) (oi := ({ dst := (some 26), op := (Op.nilCheck (Operand.tmp 25)), type := 0, pos := "ref.go:96", after := #[{ on := 0, ground := Ground.data }], guard := none } : Oper)) (v := ?_) rfl (by kernel_rfl) (by kernel_rfl) (by kernel_rfl) (by kernel_rfl) (by kernel_rfl) (fun _ _ _ h => h) (Or.inl ⟨by rfl, ?_⟩) hHeld ?_
      rotate_left
      · intro w_ hSw; (try dsimp only at hSw); go_simp; try (with_reducible rfl)
      try simp only [Act.put, List.setIfInBounds_toArray, List.set_cons_zero, List.set_cons_succ]
      refine wpAnyLast_take (i := 2) (oi := ({ dst := (some 27), op := (Op.fieldAddr 56 (Operand.tmp 26) 1), type := 0, pos := "ref.go:96", after := #[{ on := 1, ground := Ground.data }], guard := none } : Oper)) (v := ?_) rfl (by kernel_rfl) (by kernel_rfl) (by kernel_rfl) (by kernel_rfl) (by kernel_rfl) (fun _ _ _ h => h) (Or.inl ⟨by rfl, ?_⟩) hHeld ?_
      rotate_left
      · intro w_ hSw; (try dsimp only at hSw); go_simp; try (with_reducible rfl)
      try simp only [Act.put, List.setIfInBounds_toArray, List.set_cons_zero, List.set_cons_succ]
      refine wpAnyLast_take (i := 3) (oi := ({ dst := (some 28), op := (Op.load 54 (Operand.tmp 27)), type := 54, pos := "ref.go:96", after := #[{ on := 2, ground := Ground.data }], guard := none } : Oper)) (v := ?_) rfl (by kernel_rfl) (by kernel_rfl) (by kernel_rfl) (by kernel_rfl) (by kernel_rfl) (fun _ _ _ h => h) (Or.inl ⟨by rfl, ?_⟩) hHeld ?_
      rotate_left
      · intro w_ hSw; (try dsimp only at hSw); go_simp; try (with_reducible rfl)
      try simp only [Act.put, List.setIfInBounds_toArray, List.set_cons_zero, List.set_cons_succ]
      refine wpAnyLast_take (i := 4) (oi := ({ dst := (some 29), op := (Op.move (Operand.tmp 4)), type := 3, pos := "ref.go:96", after := #[], guard := none } : Oper)) (v := ?_) rfl (by kernel_rfl) (by kernel_rfl) (by kernel_rfl) (by kernel_rfl) (by kernel_rfl) (fun _ _ _ h => h) (Or.inl ⟨by rfl, ?_⟩) hHeld ?_
      rotate_left
      · intro w_ hSw; (try dsimp only at hSw); go_simp; try (with_reducible rfl)
      try simp only [Act.put, List.setIfInBounds_toArray, List.set_cons_zero, List.set_cons_succ]
      refine wpAnyLast_take (i := 5) (oi := ({ dst := (some 30), op := (Op.fieldAddr 77 (Operand.tmp 3) 1), type := 0, pos := "ref.go:96", after := #[], guard := none } : Oper)) (v := ?_) rfl (by kernel_rfl) (by kernel_rfl) (by kernel_rfl) (by kernel_rfl) (by kernel_rfl) (fun _ _ _ h => h) (Or.inl ⟨by rfl, ?_⟩) hHeld ?_
      rotate_left
      · intro w_ hSw; (try dsimp only at hSw); go_simp; try (with_reducible rfl)
      try simp only [Act.put, List.setIfInBounds_toArray, List.set_cons_zero, List.set_cons_succ]
      refine wpAnyLast_take (i := 6) (oi := ({ dst := (some 31), op := (Op.load 27 (Operand.tmp 30)), type := 27, pos := "ref.go:96", after := #[{ on := 5, ground := Ground.data }], guard := none } : Oper)) (v := ?_) rfl (by kernel_rfl) (by kernel_rfl) (by kernel_rfl) (by kernel_rfl) (by kernel_rfl) (fun _ _ _ h => h) (Or.inl ⟨by rfl, ?_⟩) hHeld ?_
      rotate_left
      · intro w_ hSw; (try dsimp only at hSw); go_simp; try (with_reducible rfl)
      try simp only [Act.put, List.setIfInBounds_toArray, List.set_cons_zero, List.set_cons_succ]
      refine wpAnyLast_take (i := 7) (oi := ({ dst := (some 32), op := (Op.indexAddr 54 (Operand.tmp 28) (Operand.tmp 29)), type := 0, pos := "ref.go:96", after := #[{ on := 3, ground := Ground.data }, { on := 4, ground := Ground.data }, { on := 0, ground := Ground.phase }, { on := 1, ground := Ground.phase }, { on := 2, ground := Ground.phase }, { on := 3, ground := Ground.phase }, { on := 4, ground := Ground.phase }, { on := 5, ground := Ground.phase }, { on := 6, ground := Ground.phase }], guard := none } : Oper)) (v := ?_) rfl (by kernel_rfl) (by kernel_rfl) (by kernel_rfl) (by kernel_rfl) (by kernel_rfl) (fun _ _ _ h => h) (Or.inl ⟨by rfl, ?_⟩) hHeld ?_
      rotate_left
      · intro w_ hSw; (try dsimp only at hSw); go_simp; try (with_reducible rfl)
      try simp only [Act.put, List.setIfInBounds_toArray, List.set_cons_zero, List.set_cons_succ]
      refine wpAnyLast_take (i := 8) (oi := ({ dst := (some 33), op := (Op.fieldAddr 77 (Operand.tmp 32) 1), type := 0, pos := "ref.go:96", after := #[{ on := 7, ground := Ground.data }, { on := 0, ground := Ground.phase }, { on := 1, ground := Ground.phase }, { on := 2, ground := Ground.phase }, { on := 3, ground := Ground.phase }, { on := 4, ground := Ground.phase }, { on := 5, ground := Ground.phase }, { on := 6, ground := Ground.phase }], guard := none } : Oper)) (v := ?_) rfl (by kernel_rfl) (by kernel_rfl) (by kernel_rfl) (by kernel_rfl) (by kernel_rfl) (fun _ _ _ h => h) (Or.inl ⟨by rfl, ?_⟩) hHeld ?_
      rotate_left
      · intro w_ hSw; (try dsimp only at hSw); go_simp; try (with_reducible rfl)
      try simp only [Act.put, List.setIfInBounds_toArray, List.set_cons_zero, List.set_cons_succ]
      refine wpAnyLast_ready (rs := [9]) (by kernel_rfl) (by simp) ?_
      refine AllReadyL.cons_last (o := ({ dst := none, op := (Op.store 27 (Operand.tmp 33) (Operand.tmp 31)), type := 0, pos := "ref.go:96", after := #[{ on := 8, ground := Ground.data }, { on := 6, ground := Ground.data }, { on := 0, ground := Ground.phase }, { on := 1, ground := Ground.phase }, { on := 2, ground := Ground.phase }, { on := 3, ground := Ground.phase }, { on := 4, ground := Ground.phase }, { on := 5, ground := Ground.phase }, { on := 6, ground := Ground.phase }], guard := none } : Oper)) rfl (by decide) (fun K hK => ?_) AllReadyL.nil
      have hcS := (HC.out _ HP.out).2; have hfS := R_frozP (HP.out.row 2 rfl) (x.toNat * 2 + 1); go_simp; have HPn := Aside0.mk (Hp.putP HP.out 2 rfl x.toNat q (by rw [HJ.out.2.1]; exact HJ.out.2.2) (.slice Ap 64 cp) p.b rfl); clear HP hcS hfS; have HP := HPn; clear HPn
      clear hHeld
      refine hK.out _ _ ?_
      clear hK K
      try simp only [Act.put, List.setIfInBounds_toArray, List.set_cons_zero, List.set_cons_succ]
      refine wpAnyLast_done (by kernel_rfl) ?_ _
      have HPF := Aside0.mk (Hp.closeR { R with firm := putP F p } ex (v1 := .slice (some ⟨gr, 0, none⟩) F.length c1) (v2 := v2) (ps := ps) HIN.out HI.out (show Hp w0 _ (.blk g (.cells (refC R (.slice (some ⟨gr, 0, none⟩) F.length c1) v2).toArray 56 (0, 0)) :: .row KPt 77 w0.heap.size (.slice (some ⟨gr, 0, none⟩) F.length c1) (putP F p) :: .row KPt 77 w0.heap.size v2 R.soft :: .all (poolL w0.heap.size ps) :: Rs.set i .none) from by
        have h := HP.out.drop1
        have e := HPE.out
        rw [← HJ.out.2.1, HPV.out] at e
        rw [e]
        exact h))
      clear HP
      go_wp2_with fail
      refine bodyPost_ret (v := .tuple #[]) (by simp [results, Try.results46, go_sem]) rfl ?_
      exact ⟨rfl, HPF.out⟩
    · have d2 : (q.n == pn) = false := beq_eq_false_iff_ne.2 c2
      have HN2 := Aside0.mk (show ∀ k, k < j + 1 → ∀ q', F[k]? = some q' → q'.n ≠ p.n from fun k hk q' hq' => by
        rcases Nat.lt_or_ge k j with h | h
        · exact HN.out k h q' hq'
        · obtain rfl : k = j := by omega
          rw [HJ.out.2.2] at hq'
          cases hq'
          rw [HPN.out]
          exact c2)
      clear c2
      go_wp2_with fail
      go_roundg (gk - 1)
      case measure => have := HK.out; have := HJ.out.1; omega
      case rel => exact ⟨j + 1, x + 1, rfl, ⟨by have := HX.out; omega⟩, ⟨by have := HK.out; have := HJ.out.1; omega⟩, HN2, HP⟩
  · have d1 : decide (x < (F.length : Int)) = false := decide_eq_false (by omega)
    have HPE := Aside0.mk (show putP F p = F ++ [p] from putP_end F p (fun q hq => by
      obtain ⟨k, hk2, rfl⟩ := List.getElem_of_mem hq
      exact HN.out k (by omega) _ (List.getElem?_eq_getElem hk2)))
    clear hx hk hm c1_
    go_wp2_with fail
    clear hc1
    refine last_named (ds := [10]) (S := (fun w' => w'.cell? ⟨g, 1, none⟩ = some (.slice A1 F.length c1) ∧ w'.rangeAt b0 0 [.int .i64 pn, .slice Ap 64 cp])) (by kernel_rfl) (fun wd6 hwd6 => ?_)
    have HPn := Aside0.mk (HP.out.drewN 1)
    rw [← World.drew_is_drewN, hwd6] at HPn
    clear HP hwd6
    have HP := HPn
    clear HPn
    refine ⟨by (try dsimp only); first | exact ⟨blk_cell (HP.out.blk 1 rfl) 1, rangeB (HP.out.blk 0 rfl)⟩ | exact ⟨blk_cell (HP.out.blk 2 rfl) 1, rangeB (HP.out.blk 1 rfl)⟩, fun hHeld => ?_⟩
    refine wpAnyLast_take (i := 0) (oi := ({ dst := (some 34), op := (Op.move (Operand.tmp 0)), type := 50, pos := "ref.go:100", after := #[], guard := none } : Oper)) (v := ?_) rfl (by kernel_rfl) (by kernel_rfl) (by kernel_rfl) (by kernel_rfl) (by kernel_rfl) (fun _ _ _ h => h) (Or.inl ⟨by rfl, ?_⟩) hHeld ?_
    rotate_left
    · intro w_ hSw; (try dsimp only at hSw); go_simp; try (with_reducible rfl)
    try simp only [Act.put, List.setIfInBounds_toArray, List.set_cons_zero, List.set_cons_succ]
    refine wpAnyLast_take (i := 1) (oi := ({ dst := (some 35), op := (Op.move (Operand.tmp 0)), type := 50, pos := "ref.go:100", after := #[], guard := none } : Oper)) (v := ?_) rfl (by kernel_rfl) (by kernel_rfl) (by kernel_rfl) (by kernel_rfl) (by kernel_rfl) (fun _ _ _ h => h) (Or.inl ⟨by rfl, ?_⟩) hHeld ?_
    rotate_left
    · intro w_ hSw; (try dsimp only at hSw); go_simp; try (with_reducible rfl)
    try simp only [Act.put, List.setIfInBounds_toArray, List.set_cons_zero, List.set_cons_succ]
    refine wpAnyLast_take (i := 2) (oi := ({ dst := (some 36), op := (Op.nilCheck (Operand.tmp 35)), type := 0, pos := "ref.go:100", after := #[{ on := 1, ground := Ground.data }], guard := none } : Oper)) (v := ?_) rfl (by kernel_rfl) (by kernel_rfl) (by kernel_rfl) (by kernel_rfl) (by kernel_rfl) (fun _ _ _ h => h) (Or.inl ⟨by rfl, ?_⟩) hHeld ?_
    rotate_left
    · intro w_ hSw; (try dsimp only at hSw); go_simp; try (with_reducible rfl)
    try simp only [Act.put, List.setIfInBounds_toArray, List.set_cons_zero, List.set_cons_succ]
    refine wpAnyLast_take (i := 3) (oi := ({ dst := (some 37), op := (Op.fieldAddr 56 (Operand.tmp 36) 1), type := 0, pos := "ref.go:100", after := #[{ on := 2, ground := Ground.data }], guard := none } : Oper)) (v := ?_) rfl (by kernel_rfl) (by kernel_rfl) (by kernel_rfl) (by kernel_rfl) (by kernel_rfl) (fun _ _ _ h => h) (Or.inl ⟨by rfl, ?_⟩) hHeld ?_
    rotate_left
    · intro w_ hSw; (try dsimp only at hSw); go_simp; try (with_reducible rfl)
    try simp only [Act.put, List.setIfInBounds_toArray, List.set_cons_zero, List.set_cons_succ]
    refine wpAnyLast_take (i := 4) (oi := ({ dst := (some 38), op := (Op.load 54 (Operand.tmp 37)), type := 54, pos := "ref.go:100", after := #[{ on := 3, ground := Ground.data }], guard := none } : Oper)) (v := ?_) rfl (by kernel_rfl) (by kernel_rfl) (by kernel_rfl) (by kernel_rfl) (by kernel_rfl) (fun _ _ _ h => h) (Or.inl ⟨by rfl, ?_⟩) hHeld ?_
    rotate_left
    · intro w_ hSw; (try dsimp only at hSw); go_simp; try (with_reducible rfl)
    try simp only [Act.put, List.setIfInBounds_toArray, List.set_cons_zero, List.set_cons_succ]
    refine wpAnyLast_take (i := 5) (oi := ({ dst := (some 39), op := (Op.load 77 (Operand.tmp 3)), type := 77, pos := "ref.go:100", after := #[], guard := none } : Oper)) (v := _) rfl (by kernel_rfl) (by kernel_rfl) (by kernel_rfl) (by kernel_rfl) (by kernel_rfl) (fun _ _ _ h => h) (yieldsIf_load_mid (by rfl) _ _ rfl _ _ rfl _ _ (fun w h => h.2) Try.underlying77 rfl (by kernel_rfl)) hHeld ?_
    try simp only [Act.put, List.setIfInBounds_toArray, List.set_cons_zero, List.set_cons_succ]
    refine wpAnyLast_ready (rs := [6]) (by kernel_rfl) (by simp) ?_
    refine AllReadyL.cons (o := ({ dst := (some 40), op := (Op.buildSlice 54 1 #[(0, (Operand.tmp 39))]), type := 54, pos := "ref.go:100", after := #[{ on := 5, ground := Ground.data }], guard := none } : Oper)) rfl (by decide) (fun K hK => ?_) AllReadyL.nil
    go_simp; have HPn := Aside0.mk (HP.out.alloc (.cells #[.int .i64 pn, .slice Ap 64 cp] 77 (0, 0))); clear HP; have HP := HPn; clear HPn; obtain ⟨wx, hwx⟩ : ∃ z, wd6.alloc (.cells #[.int .i64 pn, .slice Ap 64 cp] 77) = z := ⟨_, rfl⟩; obtain ⟨gx, hgx⟩ : ∃ z, wd6.heap.size = z := ⟨_, rfl⟩; rw [show wd6.alloc (.cells #[.int .i64 pn, .slice Ap 64 cp] 77 (0, 0)) = wx from hwx, hgx] at HP; rw [show wd6.alloc (.cells #[.int .i64 pn, .slice Ap 64 cp] 77 (0, 0)) = wx from hwx, hgx]; clear hwx hgx
    clear hHeld
    refine hK.out _ _ ?_ (fun hHeld => ?_)
    · (try dsimp only); first | exact ⟨blk_cell (HP.out.blk 1 rfl) 1, rangeB (HP.out.blk 0 rfl)⟩ | exact ⟨blk_cell (HP.out.blk 2 rfl) 1, rangeB (HP.out.blk 1 rfl)⟩
    clear hK K
    try simp only [Act.put, List.setIfInBounds_toArray, List.set_cons_zero, List.set_cons_succ]
    refine wpAnyLast_ready (rs := [7]) (by kernel_rfl) (by simp) ?_
    refine AllReadyL.cons (o := ({ dst := (some 41), op := (Op.call { callee := (Callee.builtin Builtin.append), args := #[(Operand.tmp 38), (Operand.tmp 40)], argTypes := #[54, 54] }), type := 54, pos := "ref.go:100", after := #[{ on := 4, ground := Ground.data }, { on := 6, ground := Ground.data }], guard := none } : Oper)) rfl (by decide) (fun K hK => ?_) AllReadyL.nil
    refine st_append plain_KPt HP.out 3 (by rfl) (.tmp 38) (.tmp 40) 54 77 _ 32 (by rfl) Try.underlying54 infoKPt rfl (by decide) (by decide) (.slice A1 F.length c1) F [⟨pn, .slice Ap 64 cp, p.b⟩] (some ⟨gx, 0, none⟩) 1 1 (by rfl) (by rfl) rfl (C_blk1 KPt (HP.out.blk 0 rfl) ⟨rfl, rfl⟩) (by have := HLF.out; omega) ?_; intro v_m wz hpn; clear HP; have HP := Aside0.mk hpn; clear hpn; obtain ⟨A_m, c_m, rfl⟩ := Kd.R_slice (HP.out.row 3 rfl); simp only [List.length_append, List.length_cons, List.length_nil, Nat.zero_add] at HP; (try simp only [List.length_append, List.length_cons, List.length_nil, Nat.zero_add])
    clear hHeld
    refine hK.out _ _ ?_ (fun hHeld => ?_)
    · (try dsimp only); first | exact ⟨blk_cell (HP.out.blk 1 rfl) 1, rangeB (HP.out.blk 0 rfl)⟩ | exact ⟨blk_cell (HP.out.blk 2 rfl) 1, rangeB (HP.out.blk 1 rfl)⟩
    clear hK K
    try simp only [Act.put, List.setIfInBounds_toArray, List.set_cons_zero, List.set_cons_succ]
    refine wpAnyLast_take (i := 8) (oi := ({ dst := (some 42), op := (Op.nilCheck (Operand.tmp 34)), type := 0, pos := "ref.go:100", after := #[{ on := 0, ground := Ground.data }, { on := 0, ground := Ground.phase }, { on := 1, ground := Ground.phase }, { on := 2, ground := Ground.phase }, { on := 3, ground := Ground.phase }, { on := 4, ground := Ground.phase }, { on := 5, ground := Ground.phase }, { on := 6, ground := Ground.phase }, { on := 7, ground := Ground.phase }], guard := none } : Oper)) (v := ?_) rfl (by kernel_rfl) (by kernel_rfl) (by kernel_rfl) (by kernel_rfl) (by kernel_rfl) (fun _ _ _ h => h) (Or.inl ⟨by rfl, ?_⟩) hHeld ?_
    rotate_left
    · intro w_ hSw; (try dsimp only at hSw); go_simp; try (with_reducible rfl)
    try simp only [Act.put, List.setIfInBounds_toArray, List.set_cons_zero, List.set_cons_succ]
    refine wpAnyLast_take (i := 9) (oi := ({ dst := (some 43), op := (Op.fieldAddr 56 (Operand.tmp 42) 1), type := 0, pos := "ref.go:100", after := #[{ on := 8, ground := Ground.data }, { on := 0, ground := Ground.phase }, { on := 1, ground := Ground.phase }, { on := 2, ground := Ground.phase }, { on := 3, ground := Ground.phase }, { on := 4, ground := Ground.phase }, { on := 5, ground := Ground.phase }, { on := 6, ground := Ground.phase }, { on := 7, ground := Ground.phase }], guard := none } : Oper)) (v := ?_) rfl (by kernel_rfl) (by kernel_rfl) (by kernel_rfl) (by kernel_rfl) (by kernel_rfl) (fun _ _ _ h => h) (Or.inl ⟨by rfl, ?_⟩) hHeld ?_
    rotate_left
    · intro w_ hSw; (try dsimp only at hSw); go_simp; try (with_reducible rfl)
    try simp only [Act.put, List.setIfInBounds_toArray, List.set_cons_zero, List.set_cons_succ]
    refine wpAnyLast_ready (rs := [10]) (by kernel_rfl) (by simp) ?_
    refine AllReadyL.cons_last (o := ({ dst := none, op := (Op.store 54 (Operand.tmp 43) (Operand.tmp 41)), type := 0, pos := "ref.go:100", after := #[{ on := 9, ground := Ground.data }, { on := 7, ground := Ground.data }, { on := 7, ground := Ground.chain }, { on := 0, ground := Ground.phase }, { on := 1, ground := Ground.phase }, { on := 2, ground := Ground.phase }, { on := 3, ground := Ground.phase }, { on := 4, ground := Ground.phase }, { on := 5, ground := Ground.phase }, { on := 6, ground := Ground.phase }, { on := 7, ground := Ground.phase }], guard := none } : Oper)) rfl (by decide) (fun K hK => ?_) AllReadyL.nil
    have hcS := blk_cell (HP.out.blk 2 rfl) 1; have hfS := blk_frozen (HP.out.blk 2 rfl) 1; go_simp; have HPn := Aside0.mk (HP.out.setCell 2 rfl 1 (.slice A_m (F.length + 1) c_m)); clear HP hcS hfS; have HP := HPn; clear HPn
    clear hHeld
    refine hK.out _ _ ?_
    clear hK K
    try simp only [Act.put, List.setIfInBounds_toArray, List.set_cons_zero, List.set_cons_succ]
    refine wpAnyLast_done (by kernel_rfl) ?_ _
    have HPF := Aside0.mk (Hp.closeR { R with firm := putP F p } ex (v1 := .slice A_m (F.length + 1) c_m) (v2 := v2) (ps := ps) HIN.out HI.out (show Hp w0 _ (.blk g (.cells (refC R (.slice A_m (F.length + 1) c_m) v2).toArray 56 (0, 0)) :: .row KPt 77 w0.heap.size (.slice A_m (F.length + 1) c_m) (putP F p) :: .row KPt 77 w0.heap.size v2 R.soft :: .all (poolL w0.heap.size ps) :: Rs.set i .none) from by
      have h := HP.out.drop1.drop1
      rw [HPE.out, show p = ⟨pn, .slice Ap 64 cp, p.b⟩ from by rw [← HPN.out, ← HPV.out]]
      exact h))
    clear HP
    go_wp2_with fail
    exact bodyPost_end (v := .tuple #[]) (by simp [results, Try.results46, go_sem]) rfl ⟨rfl, HPF.out⟩
def flushRE (R : RS) : Int := if R.out = true ∨ stepB R = false then 10 else 0
def flushR (R : RS) : RS := if R.out = true then R else if stepB R = false then stepR R else { stepR R with firm := (stepR R).soft.foldl putP (stepR R).firm, soft := [] }
theorem foldP_len : ∀ (l F : List Pt), (l.foldl putP F).length ≤ F.length + l.length
  | [], F => by simp
  | p :: l, F => by
    rw [List.foldl_cons, List.length_cons]
    have := foldP_len l (putP F p)
    have := putP_len F p
    omega
theorem fold_take (l F : List Pt) (j : Nat) (p : Pt) (hj : l[j]? = some p) : (l.take (j + 1)).foldl putP F = putP ((l.take j).foldl putP F) p := by
  have hl : j < l.length := (List.getElem?_eq_some_iff.1 hj).1
  rw [List.take_succ_eq_append_getElem hl, List.foldl_append]
  rw [show l[j] = p from by rw [List.getElem?_eq_getElem hl] at hj; exact Option.some.inj hj]
  rfl
set_option maxHeartbeats 8000000 in
set_option maxRecDepth 100000 in
theorem c_rflush {w0 w : World} {Rs : List Res} (HP0 : Hp w0 w Rs) (i g : Nat) (R : RS) (ex : List Pt) (hi : Rs[i]? = some (rRef w0.heap.size g R ex)) (hls : R.soft.length ≤ 100000) (hlf : R.firm.length ≤ 100000) :
    Calls Try.prog 39 #[.pointer (some ⟨g, 0, none⟩)] w fun e w' => e = .returned (.int .i64 (flushRE R)) ∧ Hp w0 w' (Rs.set i (rRef w0.heap.size g (flushR R) ex)) := by
  have HH := Aside0.mk HP0
  have HI2 := Aside0.mk hi
  have HSELF := Aside0.mk (show Rs.set i (rRef w0.heap.size g R ex) = Rs from set_self hi)
  have HLL := Aside0.mk (And.intro hls hlf)
  have HRB := Aside0.mk (stepR_same R)
  obtain ⟨v1, v2, ps, hm, HP1⟩ := Hp.openR HP0 i g R ex hi
  have hil : i < Rs.length := (List.getElem?_eq_some_iff.1 hi).1
  have HP := Aside0.mk HP1
  have HM := Aside0.mk hm
  have HI := Aside0.mk hil
  clear HP0 HP1 hm hil
  have hc6 : w.cell? ⟨g, 6, none⟩ = some (.bool R.out) := blk_cell (HP.out.blk 0 rfl) 6
  have HFE : Aside0 (flushRE R = if R.out = true ∨ stepB R = false then 10 else 0) := ⟨rfl⟩
  have HFR : Aside0 (flushR R = if R.out = true then R else if stepB R = false then stepR R else { stepR R with firm := (stepR R).soft.foldl putP (stepR R).firm, soft := [] }) := ⟨rfl⟩
  obtain ⟨o, ho⟩ : ∃ z, R.out = z := ⟨_, rfl⟩
  rw [ho] at hc6
  have HO := Aside0.mk ho
  clear ho hls hlf hi HP HM
  cases o with
  | true =>
    have HE := Aside0.mk (show flushRE R = 10 ∧ flushR R = R from ⟨by rw [HFE.out, if_pos (.inl HO.out)], by rw [HFR.out, if_pos HO.out]⟩)
    go_enter Try.func39, Try.ntmps39
    go_wp2_with fail
    go_ret
    exact ⟨by rw [HE.out.1]; rfl, by rw [HE.out.2, HSELF.out]; exact HH.out⟩
  | false =>
    go_enter Try.func39, Try.ntmps39
    go_wp2_with fail
    refine (c_rstep HH.out i g R ex HI2.out).mono ?_; rintro e w1 ⟨rfl, hpn⟩
    clear hc6 HH
    obtain ⟨sb, hsb⟩ : ∃ z, stepB R = z := ⟨_, rfl⟩
    rw [hsb] at HFE HFR ⊢
    clear hsb
    cases sb with
    | false =>
      have HE := Aside0.mk (show flushRE R = 10 ∧ flushR R = stepR R from ⟨by rw [HFE.out]; simp, by rw [HFR.out, if_neg (by rw [HO.out]; decide), if_pos rfl]⟩)
      go_wp2_with fail
      go_ret
      exact ⟨by rw [HE.out.1]; rfl, by rw [HE.out.2]; exact hpn⟩
    | true =>
      have HE := Aside0.mk (show flushRE R = 0 ∧ flushR R = { stepR R with firm := (stepR R).soft.foldl putP (stepR R).firm, soft := [] } from ⟨by rw [HFE.out, HO.out]; simp, by rw [HFR.out, if_neg (by rw [HO.out]; decide), if_neg (by decide)]⟩)
      have HLT := Aside0.mk (show (stepR R).soft.length ≤ 100000 ∧ (stepR R).firm.length ≤ 100000 from by rw [HRB.out.1, HRB.out.2.1]; exact HLL.out)
      obtain ⟨T, hT⟩ : ∃ z, stepR R = z := ⟨_, rfl⟩
      rw [hT] at HE HLT hpn
      clear hT
      have HP1 := Aside0.mk (show Hp w0 w1 (Rs.set i (rRef w0.heap.size g { T with firm := (T.soft.take 0).foldl putP T.firm } ex)) from hpn)
      clear hpn
      go_wp2_with fail
      go_loopg [3] T.soft.length (fun kq v3 w' => ∃ (j : Nat) (x : Int), v3 = .int .i64 x ∧ Aside0 (x = (j : Int)) ∧ Aside0 (kq + j = T.soft.length) ∧ Aside0 (Hp w0 w' (Rs.set i (rRef w0.heap.size g { T with firm := (T.soft.take j).foldl putP T.firm } ex))))
      case atStart => exact ⟨0, 0, rfl, ⟨rfl⟩, ⟨rfl⟩, HP1⟩
      clear HP1
      obtain ⟨j, x, rfl, HX, HK, HP⟩ := hrel
      have hx := HX.out
      have hk := HK.out
      have hlt := HLT.out.1
      obtain ⟨v1, v2, ps, hm, HP2⟩ := Hp.openR HP.out i g { T with firm := (T.soft.take j).foldl putP T.firm } ex (set_get _ HI.out)
      rw [List.set_set] at HP2
      obtain ⟨A2, c2, rfl⟩ := Kd.R_slice (HP2.row 2 rfl)
      have hc2 := (blk_cell (HP2.blk 0 rfl) 2).trans (show _ = some (Value.slice A2 T.soft.length c2) from rfl)
      by_cases c1_ : j < T.soft.length
      · have d1 : decide (x < (T.soft.length : Int)) = true := decide_eq_true (by omega)
        have ex_ := i64k (x := x + 1) rfl (by omega)
        obtain ⟨p, hp⟩ : ∃ p, T.soft[j]? = some p := ⟨_, List.getElem?_eq_getElem c1_⟩
        obtain ⟨bA, oA, rfl⟩ := C_addrK (by decide) (Kd.R_reads' (HP2.row 2 rfl)).2.2 (show 0 < T.soft.length by omega)
        obtain ⟨hcn, hcv⟩ := cellsP (Kd.R_reads' (HP2.row 2 rfl)).2.2 hp
        have hxj : x.toNat = j := by omega
        have p0 : 0 ≤ x := by omega
        have q0 : x < (T.soft.length : Int) := by omega
        rw [← hxj] at hcn hcv
        have hpm : p ∈ T.soft := by obtain ⟨h1, h2⟩ := List.getElem?_eq_some_iff.1 hp; rw [← h2]; exact List.getElem_mem h1
        have CF := Aside0.mk (c_rfirm HP.out i g { T with firm := (T.soft.take j).foldl putP T.firm } ex (set_get _ HI.out) (by have h1 := foldP_len (T.soft.take j) T.firm; have h2 := List.length_take_le j T.soft; have := HLT.out.2; show ((T.soft.take j).foldl putP T.firm).length ≤ 1000000; rw [List.length_take] at h1; omega) p (List.mem_append_right _ (List.mem_append_left _ hpm)))
        have HFT := Aside0.mk (fold_take T.soft T.firm j p hp)
        have HJ := Aside0.mk c1_
        obtain ⟨pn, hpn_⟩ : ∃ z, p.n = z := ⟨_, rfl⟩
        obtain ⟨pv, hpv_⟩ : ∃ z, p.v = z := ⟨_, rfl⟩
        obtain ⟨Ap, cp, epv, _, _⟩ := pool_C HP2 3 rfl (hm p (List.mem_append_right _ (List.mem_append_left _ hpm)))
        rw [hpn_] at hcn CF
        rw [hpv_] at hcv CF epv
        subst epv
        clear hx hk hlt c1_ hp hxj HP2 hm hpm hpn_ hpv_ HP
        go_wp2_with fail
        refine CF.out.mono ?_; rintro e w6 ⟨rfl, hpn⟩
        rw [List.set_set] at hpn
        have HPn := Aside0.mk (show Hp w0 w6 (Rs.set i (rRef w0.heap.size g { T with firm := (T.soft.take (j + 1)).foldl putP T.firm } ex)) from by rw [HFT.out]; exact hpn)
        clear hpn hcn hcv hc2
        go_wp2_with fail
        go_roundg (gk - 1)
        case measure => have := HK.out; have := HJ.out; omega
        case rel => exact ⟨j + 1, x + 1, rfl, ⟨by have := HX.out; omega⟩, ⟨by have := HK.out; have := HJ.out; omega⟩, HPn⟩
      · have d1 : decide (x < (T.soft.length : Int)) = false := decide_eq_false (by omega)
        obtain rfl : j = T.soft.length := by omega
        have HP3 := Aside0.mk HP2
        have HM := Aside0.mk hm
        have hf2 := blk_frozen (HP3.out.blk 0 rfl) 2
        have HPn := Aside0.mk (HP3.out.setCell 0 rfl 2 (.slice none 0 0))
        clear hx hk hlt c1_ HP HP2 hm HP3
        go_wp2_with fail
        go_ret
        refine ⟨by rw [HE.out.1]; rfl, ?_⟩
        rw [HE.out.2]
        have h1 := Hp.nilrow HPn.out KPt 77 (.slice none 0 0) (fun ok => Kd.R_nil KPt 77 _ _ ok)
        have HMm := HM.out
        rw [List.take_length] at HMm h1
        have h2 := Hp.perm h1 (Rs' := .row KPt 77 w0.heap.size (.slice A2 T.soft.length c2) T.soft :: .blk g (.cells (refC { T with firm := T.soft.foldl putP T.firm, soft := [] } v1 (.slice none 0 0)).toArray 56 (0, 0)) :: .row KPt 77 w0.heap.size v1 (T.soft.foldl putP T.firm) :: .row KPt 77 w0.heap.size (.slice none 0 0) [] :: .all (poolL w0.heap.size ps) :: Rs.set i .none) (by
          show List.Perm (_ :: _ :: _ :: _ :: _ :: Rs.set i .none) _
          have p1 : ∀ (a b c d e : Res) (l : List Res), List.Perm (a :: b :: c :: d :: e :: l) (d :: b :: c :: a :: e :: l) := fun a b c d e l =>
            ((List.Perm.cons a (((List.Perm.swap d c (e :: l)).cons b).trans (List.Perm.swap d b (c :: e :: l)))).trans (List.Perm.swap d a (b :: c :: e :: l))).trans (List.Perm.cons d ((List.Perm.swap b a (c :: e :: l)).trans (List.Perm.cons b (List.Perm.swap c a (e :: l)))))
          exact p1 _ _ _ _ _ _)
        exact Hp.closeR { T with firm := T.soft.foldl putP T.firm, soft := [] } ex (fun p hp => HMm p (by
          simp only [List.mem_append, List.not_mem_nil, false_or] at hp ⊢
          rcases hp with h | h
          · exact .inl h
          · exact .inr (.inr h))) HI.out h2.drop1
end Go.Proofs.Ytejfocliopbocaa.Su
