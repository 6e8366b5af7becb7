import Derived.Test.YtncmbkjjoamfjaaO8t
namespace Go.Proofs.Ytncmbkjjoamfjaa.H
open Go.RowKit Go.Proofs.Ytncmbkjjoamfjaa.XH Go.Proofs.YtncmbkjjoamfjaaW.PrintWords Go.Proofs.YtncmbkjjoamfjaaW.PrintLast Go.Proofs.YtncmbkjjoamfjaaW.PrintMore Go.Proofs.YtncmbkjjoamfjaaXe Go.Proofs.YtncmbkjjoamfjaaXs
set_option linter.unusedVariables false
set_option linter.unusedSimpArgs false
attribute [local go_sem ↓] Go.wp_at_zero Go.wp_at_succ
attribute [local go_sem] valUpon
attribute [local go_sem ↓ high] bn29
attribute [local go_sem high] BN29.z
set_option maxHeartbeats 8000000 in
set_option maxRecDepth 100000 in
theorem objectBack_law (a0 : Int) (A : Option Addr) (c : Nat) (b : List Int) (w : World) (hr : Kd.C (Kd.int .u8) w A b.length b) (hc : b.length ≤ c) (hB : Bytes b) (A2 : Option Addr) (c2 : Nat) (o : List Int) (hr2 : Kd.C (Kd.int .u8) w A2 o.length o) (hc2 : o.length ≤ c2) (hB2 : Bytes o) :
    Calls Try.prog 6 #[.int .i64 a0, .slice A b.length c, .slice A2 o.length c2] w fun e w' => e = .returned (.bool true) ∧ Below w.heap.size w w' := by
  have HR := Aside0.mk hr
  have HC := Aside0.mk hc
  have HB := Aside0.mk hB
  have HR2 := Aside0.mk hr2
  have HC2 := Aside0.mk hc2
  have HB2 := Aside0.mk hB2
  have HP := Aside0.mk (Hp.start w)
  clear hr hc hB hr2 hc2 hB2
  go_enter Try.func6, Try.ntmps6
  go_wp2_with fail
  refine (objectKnown_law _).mono ?_; rintro e w1 ⟨rfl, hb⟩; have HPn := Aside0.mk (HP.out.call hb); clear HP; have HP := HPn; clear HPn; clear hb
  by_cases c1 : (1000 : Int) < (b.length : Int)
  · have c1b : decide ((1000 : Int) < (b.length : Int)) = true := decide_eq_true c1
    go_wp2_with fail
    go_ret
    exact ⟨rfl, HP.out.below⟩
  have c1b : decide ((1000 : Int) < (b.length : Int)) = false := decide_eq_false c1
  have HN := Aside0.mk (show b.length ≤ 1000 by omega)
  clear c1
  by_cases c2_ : (2000 : Int) < (o.length : Int)
  · have c2b : decide ((2000 : Int) < (o.length : Int)) = true := decide_eq_true c2_
    go_wp2_with fail
    go_ret
    exact ⟨rfl, HP.out.below⟩
  have c2b : decide ((2000 : Int) < (o.length : Int)) = false := decide_eq_false c2_
  have HO := Aside0.mk (show o.length ≤ 2000 by omega)
  clear c2_
  go_wp2_with fail
  have CPK := Aside0.mk (c_pack a0 A c b _ (Kd.C_below HR.out HP.out.below) HC.out (by have := HN.out; omega) HB.out)
  refine CPK.out.mono ?_; rintro e w2 ⟨v2, rfl, ho, hb⟩
  clear CPK
  have HPn := Aside0.mk (HP.out.newR hb ho)
  clear HP ho hb
  have HP := HPn
  clear HPn
  obtain ⟨Ax, cx, rfl⟩ := Kd.R_slice (HP.out.row 0 rfl)
  go_wp2_with fail
  have CID := Aside0.mk (c_id a0 A c b _ (Kd.C_below HR.out HP.out.below) HC.out (by have := HN.out; omega) HB.out)
  refine CID.out.mono ?_; rintro e w3 ⟨rfl, hb⟩; have HPn := Aside0.mk (HP.out.call hb); clear HP; have HP := HPn; clear HPn; clear hb CID
  have HIL := Aside0.mk (idO_len a0 b)
  by_cases h0 : chkO a0 b.length = 0
  · have hk9 : 1 ≤ a0 ∧ a0 ≤ 9 := by
      unfold chkO at h0
      split at h0
      · omega
      · omega
    have hid : idO a0 b = sha b := by unfold idO; rw [if_pos h0]
    have hpk : packR a0 b = packO a0 b := by unfold packR; rw [if_pos h0]
    rw [hpk] at HP
    rw [hid] at HIL
    rw [h0, hid, hpk]
    have HX := Aside0.mk (packO_len a0 b (by have := HN.out; omega))
    have HXB := Aside0.mk (packO_bytes a0 b HB.out)
    have HXU := Aside0.mk (unpE_pack a0 b hk9 (by have := HN.out; omega))
    have HXL := Aside0.mk (fun y => unp_long a0 b y hk9 (by have := HN.out; omega))
    have CHS := Aside0.mk (fun w hr => c_hsum A c b w hr HC.out (by have := HN.out; omega))
    obtain ⟨sb, hsb⟩ : ∃ z, sha b = z := ⟨_, rfl⟩
    rw [hsb] at HIL CHS
    rw [hsb]
    obtain ⟨X, hX⟩ : ∃ z, packO a0 b = z := ⟨_, rfl⟩
    rw [hX] at HX HXB HXU HXL HP
    rw [hX]
    clear hX hsb hid hpk h0 hk9
    go_wp2_with (first | ((with_reducible refine gate_dst (N := 10) rfl ?_); refine ev_alloc rfl 29 rfl (.agg (u8s z32).toArray) (by kernel_rfl) ?_; intro g_id w4 hge hg hb; have HPn := Aside0.mk (HP.out.newB hb hg hge); clear HP; have HP := HPn; clear HPn; clear hge hg hb) | ((with_reducible refine gate_store (t := 29) (p := 10) rfl ?_); refine ev_store rfl 29 (.tmp 10) (.tmp 40) rfl rfl _ rfl (cells := (u8s sb).toArray) rfl (HP.out.blk 0 rfl) (by rw [List.size_toArray, u8s_len, HIL.out]; kernel_rfl) (show (u8s z32).toArray.size = (u8s sb).toArray.size from by rw [List.size_toArray, List.size_toArray, u8s_len, u8s_len, z32_len, HIL.out]) (one_u8 _) ?_; intro w5 hg hgr; have HPn := Aside0.mk (HP.out.setB 0 rfl hgr hg); clear HP; have HP := HPn; clear HPn; clear hg hgr))
    have CU := Aside0.mk (c_unpack Ax cx X _ (Kd.R_reads' (HP.out.row 1 rfl)).2.2 (Kd.R_reads' (HP.out.row 1 rfl)).2.1 (by have h1 := HX.out; have h2 := HN.out; omega) HXB.out)
    refine CU.out.mono ?_; rintro e wv ⟨vv, rfl, ho, hb⟩
    clear CU
    rw [HXU.out.2.2] at ho
    rw [HXU.out.1, HXU.out.2.1]
    have HPn := Aside0.mk (HP.out.newR hb ho)
    clear HP ho hb
    have HP := HPn
    clear HPn
    obtain ⟨Av, cv, rfl⟩ := Kd.R_slice (HP.out.row 0 rfl)
    have heq : ∀ d w, (Op.equalIn (d + 2) 29 (.agg (u8s sb).toArray) (.agg (u8s sb).toArray)).run Try.prog w = .ok true w := fun d w => by rw [eq_id d w sb sb HIL.out HIL.out]; simp
    have hu := Try.underlying29
    have hisb : (Try.prog.info? 29).map (·.size) = some (u8s sb).length := by rw [u8s_len, HIL.out]; kernel_rfl
    obtain ⟨ss, hss⟩ : ∃ z, secO (b.length : Int) = z := ⟨_, rfl⟩
    have HSS := Aside0.mk (show object_Sectors.f 5 (b.length : Int) = some ss by rw [sectors_f, hss])
    have hsx : 64 * ss = (X.length : Int) := by
      have h1 := HX.out
      have h2 := HN.out
      unfold secO at hss
      rw [if_neg (by omega)] at hss
      omega
    have hsw : IntKind.i64.wrap (64 * ss) = (X.length : Int) := i64k hsx (by have h1 := HX.out; have h2 := HN.out; omega)
    clear hss hsx
    go_wp2_with fail
    refine held_named (S := (fun w' => w'.rangeAt g_id 0 (u8s sb))) (by kernel_rfl) (fun wd10 hwd10 => ?_)
    have HPn := Aside0.mk (HP.out.drewN 1)
    rw [← World.drew_is_drewN, hwd10] at HPn
    clear HP hwd10
    have HP := HPn
    clear HPn
    refine ⟨by (try dsimp only); exact rangeB (HP.out.blk 1 rfl), fun hHeld => ?_⟩
    refine wpAnyH_take (i := 0) (oi := ({ dst := (some 53), op := (Op.move (Operand.tmp 14)), type := 25, pos := "outright.go:51", after := #[], guard := none } : Oper)) (v := ?_) rfl (by kernel_rfl) (by kernel_rfl) (by kernel_rfl) (fun _ _ _ h => h) (Or.inl ⟨by rfl, ?_⟩) hHeld ?_
    rotate_left
    · intro w_ hSw; (try dsimp only at hSw); go_simp; try (with_reducible rfl)
    try simp only [Act.put, List.setIfInBounds_toArray, List.set_cons_zero, List.set_cons_succ]
    refine wpAnyH_take (i := 1) (oi := ({ dst := (some 54), op := (Op.binOp BinOp.neq 25 (Operand.tmp 53) (Operand.const (Value.int IntKind.i64 0)) 25), type := 4, pos := "outright.go:51", after := #[{ on := 0, ground := Ground.data }], guard := none } : Oper)) (v := ?_) rfl (by kernel_rfl) (by kernel_rfl) (by kernel_rfl) (fun _ _ _ h => h) (Or.inl ⟨by rfl, ?_⟩) hHeld ?_
    rotate_left
    · intro w_ hSw; (try dsimp only at hSw); go_simp; try (with_reducible rfl)
    try simp only [Act.put, List.setIfInBounds_toArray, List.set_cons_zero, List.set_cons_succ]
    refine wpAnyH_take (i := 2) (oi := ({ dst := (some 55), op := (Op.move (Operand.tmp 54)), type := 4, pos := "outright.go:51", after := #[{ on := 1, ground := Ground.data }], guard := none } : Oper)) (v := ?_) rfl (by kernel_rfl) (by kernel_rfl) (by kernel_rfl) (fun _ _ _ h => h) (Or.inl ⟨by rfl, ?_⟩) hHeld ?_
    rotate_left
    · intro w_ hSw; (try dsimp only at hSw); go_simp; try (with_reducible rfl)
    try simp only [Act.put, List.setIfInBounds_toArray, List.set_cons_zero, List.set_cons_succ]
    refine wpAnyH_take (i := 3) (oi := ({ dst := (some 56), op := (Op.move (Operand.tmp 12)), type := 3, pos := "outright.go:51", after := #[{ on := 2, ground := Ground.guard }], guard := (some (2, false)) } : Oper)) (v := ?_) rfl (by kernel_rfl) (by kernel_rfl) (by kernel_rfl) (fun _ _ _ h => h) (Or.inl ⟨by rfl, ?_⟩) hHeld ?_
    rotate_left
    · intro w_ hSw; (try dsimp only at hSw); go_simp; try (with_reducible rfl)
    try simp only [Act.put, List.setIfInBounds_toArray, List.set_cons_zero, List.set_cons_succ]
    refine wpAnyH_take (i := 4) (oi := ({ dst := (some 57), op := (Op.move (Operand.tmp 0)), type := 3, pos := "outright.go:51", after := #[{ on := 2, ground := Ground.guard }], guard := (some (2, false)) } : Oper)) (v := ?_) rfl (by kernel_rfl) (by kernel_rfl) (by kernel_rfl) (fun _ _ _ h => h) (Or.inl ⟨by rfl, ?_⟩) hHeld ?_
    rotate_left
    · intro w_ hSw; (try dsimp only at hSw); go_simp; try (with_reducible rfl)
    try simp only [Act.put, List.setIfInBounds_toArray, List.set_cons_zero, List.set_cons_succ]
    refine wpAnyH_take (i := 5) (oi := ({ dst := (some 58), op := (Op.binOp BinOp.neq 3 (Operand.tmp 56) (Operand.tmp 57) 3), type := 4, pos := "outright.go:51", after := #[{ on := 3, ground := Ground.data }, { on := 4, ground := Ground.data }, { on := 2, ground := Ground.guard }], guard := (some (2, false)) } : Oper)) (v := ?_) rfl (by kernel_rfl) (by kernel_rfl) (by kernel_rfl) (fun _ _ _ h => h) (Or.inl ⟨by rfl, ?_⟩) hHeld ?_
    rotate_left
    · intro w_ hSw; (try dsimp only at hSw); go_simp; try (with_reducible rfl)
    try simp only [Act.put, List.setIfInBounds_toArray, List.set_cons_zero, List.set_cons_succ]
    refine wpAnyH_take (i := 6) (oi := ({ dst := (some 59), op := (Op.pick (Operand.tmp 55) (Operand.const (Value.bool true)) (Operand.tmp 58)), type := 4, pos := "outright.go:51", after := #[{ on := 2, ground := Ground.data }, { on := 5, ground := Ground.data }], guard := none } : Oper)) (v := ?_) rfl (by kernel_rfl) (by kernel_rfl) (by kernel_rfl) (fun _ _ _ h => h) (Or.inl ⟨by rfl, ?_⟩) hHeld ?_
    rotate_left
    · intro w_ hSw; (try dsimp only at hSw); go_simp; try (with_reducible rfl)
    try simp only [Act.put, List.setIfInBounds_toArray, List.set_cons_zero, List.set_cons_succ]
    refine wpAnyH_take (i := 7) (oi := ({ dst := (some 60), op := (Op.move (Operand.tmp 59)), type := 4, pos := "outright.go:51", after := #[{ on := 6, ground := Ground.data }, { on := 2, ground := Ground.chain }], guard := none } : Oper)) (v := ?_) rfl (by kernel_rfl) (by kernel_rfl) (by kernel_rfl) (fun _ _ _ h => h) (Or.inl ⟨by rfl, ?_⟩) hHeld ?_
    rotate_left
    · intro w_ hSw; (try dsimp only at hSw); go_simp; try (with_reducible rfl)
    try simp only [Act.put, List.setIfInBounds_toArray, List.set_cons_zero, List.set_cons_succ]
    refine wpAnyH_take (i := 8) (oi := ({ dst := (some 61), op := (Op.move (Operand.tmp 13)), type := 22, pos := "outright.go:51", after := #[{ on := 7, ground := Ground.guard }], guard := (some (7, false)) } : Oper)) (v := ?_) rfl (by kernel_rfl) (by kernel_rfl) (by kernel_rfl) (fun _ _ _ h => h) (Or.inl ⟨by rfl, ?_⟩) hHeld ?_
    rotate_left
    · intro w_ hSw; (try dsimp only at hSw); go_simp; try (with_reducible rfl)
    try simp only [Act.put, List.setIfInBounds_toArray, List.set_cons_zero, List.set_cons_succ]
    refine wpAnyH_take (i := 9) (oi := ({ dst := (some 62), op := (Op.move (Operand.tmp 1)), type := 22, pos := "outright.go:51", after := #[{ on := 7, ground := Ground.guard }], guard := (some (7, false)) } : Oper)) (v := ?_) rfl (by kernel_rfl) (by kernel_rfl) (by kernel_rfl) (fun _ _ _ h => h) (Or.inl ⟨by rfl, ?_⟩) hHeld ?_
    rotate_left
    · intro w_ hSw; (try dsimp only at hSw); go_simp; try (with_reducible rfl)
    try simp only [Act.put, List.setIfInBounds_toArray, List.set_cons_zero, List.set_cons_succ]
    refine wpAnyH_ready (rs := [10]) (by kernel_rfl) (by simp) ?_
    refine AllReadyH.cons (o := ({ dst := (some 63), op := (Op.call { callee := (Callee.value (Operand.func 14)), args := #[(Operand.tmp 61), (Operand.tmp 62)], argTypes := #[22, 22] }), type := 4, pos := "outright.go:51", after := #[{ on := 8, ground := Ground.data }, { on := 9, ground := Ground.data }, { on := 7, ground := Ground.chain }, { on := 7, ground := Ground.guard }], guard := (some (7, false)) } : Oper)) rfl (fun K hK => ?_) AllReadyH.nil
    go_simp
    go_at_call 14; refine (retconkit_SameBytes.calls Av cv b A c b true _ (Kd.R_reads' (HP.out.row 0 rfl)).2.2 (Kd.R_reads' (HP.out.row 0 rfl)).2.1 (Kd.C_below HR.out HP.out.below) HC.out (same_f _)).mono ?_; rintro e w_ ⟨rfl, n1_, rfl⟩; have HPn := Aside0.mk (HP.out.drewN n1_); clear HP; have HP := HPn; clear HPn; (try simp only [World.drewN_drewN] at HP)
    go_wp2_with fail
    clear hHeld
    refine hK.out _ _ ?_ (fun hHeld => ?_)
    · (try dsimp only); exact rangeB (HP.out.blk 1 rfl)
    clear hK K
    try simp only [Act.put, List.setIfInBounds_toArray, List.set_cons_zero, List.set_cons_succ]
    refine wpAnyH_take (i := 11) (oi := ({ dst := (some 64), op := (Op.unOp UnOp.not 4 (Operand.tmp 63)), type := 4, pos := "outright.go:51", after := #[{ on := 10, ground := Ground.data }, { on := 7, ground := Ground.guard }], guard := (some (7, false)) } : Oper)) (v := ?_) rfl (by kernel_rfl) (by kernel_rfl) (by kernel_rfl) (fun _ _ _ h => h) (Or.inl ⟨by rfl, ?_⟩) hHeld ?_
    rotate_left
    · intro w_ hSw; (try dsimp only at hSw); go_simp; try (with_reducible rfl)
    try simp only [Act.put, List.setIfInBounds_toArray, List.set_cons_zero, List.set_cons_succ]
    refine wpAnyH_take (i := 12) (oi := ({ dst := (some 65), op := (Op.pick (Operand.tmp 60) (Operand.const (Value.bool true)) (Operand.tmp 64)), type := 4, pos := "outright.go:51", after := #[{ on := 7, ground := Ground.data }, { on := 11, ground := Ground.data }], guard := none } : Oper)) (v := ?_) rfl (by kernel_rfl) (by kernel_rfl) (by kernel_rfl) (fun _ _ _ h => h) (Or.inl ⟨by rfl, ?_⟩) hHeld ?_
    rotate_left
    · intro w_ hSw; (try dsimp only at hSw); go_simp; try (with_reducible rfl)
    try simp only [Act.put, List.setIfInBounds_toArray, List.set_cons_zero, List.set_cons_succ]
    refine wpAnyH_take (i := 13) (oi := ({ dst := (some 66), op := (Op.move (Operand.tmp 65)), type := 4, pos := "outright.go:51", after := #[{ on := 12, ground := Ground.data }, { on := 10, ground := Ground.chain }], guard := none } : Oper)) (v := ?_) rfl (by kernel_rfl) (by kernel_rfl) (by kernel_rfl) (fun _ _ _ h => h) (Or.inl ⟨by rfl, ?_⟩) hHeld ?_
    rotate_left
    · intro w_ hSw; (try dsimp only at hSw); go_simp; try (with_reducible rfl)
    try simp only [Act.put, List.setIfInBounds_toArray, List.set_cons_zero, List.set_cons_succ]
    refine wpAnyH_take (i := 14) (oi := ({ dst := (some 67), op := (Op.move (Operand.tmp 8)), type := 22, pos := "outright.go:51", after := #[{ on := 13, ground := Ground.guard }], guard := (some (13, false)) } : Oper)) (v := ?_) rfl (by kernel_rfl) (by kernel_rfl) (by kernel_rfl) (fun _ _ _ h => h) (Or.inl ⟨by rfl, ?_⟩) hHeld ?_
    rotate_left
    · intro w_ hSw; (try dsimp only at hSw); go_simp; try (with_reducible rfl)
    try simp only [Act.put, List.setIfInBounds_toArray, List.set_cons_zero, List.set_cons_succ]
    refine wpAnyH_take (i := 15) (oi := ({ dst := (some 68), op := (Op.call { callee := (Callee.builtin Builtin.len), args := #[(Operand.tmp 67)], argTypes := #[22] }), type := 3, pos := "outright.go:51", after := #[{ on := 14, ground := Ground.data }, { on := 13, ground := Ground.guard }], guard := (some (13, false)) } : Oper)) (v := ?_) rfl (by kernel_rfl) (by kernel_rfl) (by kernel_rfl) (fun _ _ _ h => h) (Or.inl ⟨by rfl, ?_⟩) hHeld ?_
    rotate_left
    · intro w_ hSw; (try dsimp only at hSw); go_simp; try (with_reducible rfl)
    try simp only [Act.put, List.setIfInBounds_toArray, List.set_cons_zero, List.set_cons_succ]
    refine wpAnyH_take (i := 16) (oi := ({ dst := (some 69), op := (Op.move (Operand.tmp 1)), type := 22, pos := "outright.go:51", after := #[{ on := 13, ground := Ground.guard }], guard := (some (13, false)) } : Oper)) (v := ?_) rfl (by kernel_rfl) (by kernel_rfl) (by kernel_rfl) (fun _ _ _ h => h) (Or.inl ⟨by rfl, ?_⟩) hHeld ?_
    rotate_left
    · intro w_ hSw; (try dsimp only at hSw); go_simp; try (with_reducible rfl)
    try simp only [Act.put, List.setIfInBounds_toArray, List.set_cons_zero, List.set_cons_succ]
    refine wpAnyH_take (i := 17) (oi := ({ dst := (some 70), op := (Op.call { callee := (Callee.builtin Builtin.len), args := #[(Operand.tmp 69)], argTypes := #[22] }), type := 3, pos := "outright.go:51", after := #[{ on := 16, ground := Ground.data }, { on := 13, ground := Ground.guard }], guard := (some (13, false)) } : Oper)) (v := ?_) rfl (by kernel_rfl) (by kernel_rfl) (by kernel_rfl) (fun _ _ _ h => h) (Or.inl ⟨by rfl, ?_⟩) hHeld ?_
    rotate_left
    · intro w_ hSw; (try dsimp only at hSw); go_simp; try (with_reducible rfl)
    try simp only [Act.put, List.setIfInBounds_toArray, List.set_cons_zero, List.set_cons_succ]
    refine wpAnyH_ready (rs := [18]) (by kernel_rfl) (by simp) ?_
    refine AllReadyH.cons (o := ({ dst := (some 71), op := (Op.call { callee := (Callee.value (Operand.func 15)), args := #[(Operand.tmp 70)], argTypes := #[3] }), type := 3, pos := "outright.go:51", after := #[{ on := 17, ground := Ground.data }, { on := 13, ground := Ground.chain }, { on := 13, ground := Ground.guard }], guard := (some (13, false)) } : Oper)) rfl (fun K hK => ?_) AllReadyH.nil
    go_simp
    go_at_call 15; refine (object_Sectors.calls 5 (b.length : Int) ss _ HSS.out).mono ?_; rintro e w_ ⟨rfl, n2_, rfl⟩; have HPn := Aside0.mk (HP.out.drewN n2_); clear HP; have HP := HPn; clear HPn; (try simp only [World.drewN_drewN] at HP)
    go_wp2_with fail
    clear hHeld
    refine hK.out _ _ ?_ (fun hHeld => ?_)
    · (try dsimp only); exact rangeB (HP.out.blk 1 rfl)
    clear hK K
    try simp only [Act.put, List.setIfInBounds_toArray, List.set_cons_zero, List.set_cons_succ]
    refine wpAnyH_take (i := 19) (oi := ({ dst := (some 72), op := (Op.binOp BinOp.mul 3 (Operand.const (Value.int IntKind.i64 64)) (Operand.tmp 71) 3), type := 3, pos := "outright.go:51", after := #[{ on := 18, ground := Ground.data }, { on := 13, ground := Ground.guard }], guard := (some (13, false)) } : Oper)) (v := ?_) rfl (by kernel_rfl) (by kernel_rfl) (by kernel_rfl) (fun _ _ _ h => h) (Or.inl ⟨by rfl, ?_⟩) hHeld ?_
    rotate_left
    · intro w_ hSw; (try dsimp only at hSw); go_simp; try (with_reducible rfl)
    try simp only [Act.put, List.setIfInBounds_toArray, List.set_cons_zero, List.set_cons_succ]
    refine wpAnyH_take (i := 20) (oi := ({ dst := (some 73), op := (Op.binOp BinOp.neq 3 (Operand.tmp 68) (Operand.tmp 72) 3), type := 4, pos := "outright.go:51", after := #[{ on := 15, ground := Ground.data }, { on := 19, ground := Ground.data }, { on := 13, ground := Ground.guard }], guard := (some (13, false)) } : Oper)) (v := ?_) rfl (by kernel_rfl) (by kernel_rfl) (by kernel_rfl) (fun _ _ _ h => h) (Or.inl ⟨by rfl, ?_⟩) hHeld ?_
    rotate_left
    · intro w_ hSw; (try dsimp only at hSw); go_simp; try (with_reducible rfl)
    try simp only [Act.put, List.setIfInBounds_toArray, List.set_cons_zero, List.set_cons_succ]
    refine wpAnyH_take (i := 21) (oi := ({ dst := (some 74), op := (Op.pick (Operand.tmp 66) (Operand.const (Value.bool true)) (Operand.tmp 73)), type := 4, pos := "outright.go:51", after := #[{ on := 13, ground := Ground.data }, { on := 20, ground := Ground.data }], guard := none } : Oper)) (v := ?_) rfl (by kernel_rfl) (by kernel_rfl) (by kernel_rfl) (fun _ _ _ h => h) (Or.inl ⟨by rfl, ?_⟩) hHeld ?_
    rotate_left
    · intro w_ hSw; (try dsimp only at hSw); go_simp; try (with_reducible rfl)
    try simp only [Act.put, List.setIfInBounds_toArray, List.set_cons_zero, List.set_cons_succ]
    refine wpAnyH_take (i := 22) (oi := ({ dst := (some 75), op := (Op.move (Operand.tmp 74)), type := 4, pos := "outright.go:51", after := #[{ on := 21, ground := Ground.data }, { on := 18, ground := Ground.chain }], guard := none } : Oper)) (v := ?_) rfl (by kernel_rfl) (by kernel_rfl) (by kernel_rfl) (fun _ _ _ h => h) (Or.inl ⟨by rfl, ?_⟩) hHeld ?_
    rotate_left
    · intro w_ hSw; (try dsimp only at hSw); go_simp; try (with_reducible rfl)
    try simp only [Act.put, List.setIfInBounds_toArray, List.set_cons_zero, List.set_cons_succ]
    refine wpAnyH_take (i := 23) (oi := ({ dst := (some 76), op := (Op.load 29 (Operand.tmp 10)), type := 29, pos := "outright.go:51", after := #[{ on := 22, ground := Ground.guard }], guard := (some (22, false)) } : Oper)) (v := _) rfl (by kernel_rfl) (by kernel_rfl) (by kernel_rfl) (fun _ _ _ h => h) (yieldsIf_load_mid (by rfl) _ _ rfl _ _ rfl _ _ (fun w hw => hw) hu rfl hisb) hHeld ?_
    try simp only [Act.put, List.setIfInBounds_toArray, List.set_cons_zero, List.set_cons_succ]
    refine wpAnyH_take (i := 24) (oi := ({ dst := (some 77), op := (Op.move (Operand.tmp 1)), type := 22, pos := "outright.go:51", after := #[{ on := 22, ground := Ground.guard }], guard := (some (22, false)) } : Oper)) (v := ?_) rfl (by kernel_rfl) (by kernel_rfl) (by kernel_rfl) (fun _ _ _ h => h) (Or.inl ⟨by rfl, ?_⟩) hHeld ?_
    rotate_left
    · intro w_ hSw; (try dsimp only at hSw); go_simp; try (with_reducible rfl)
    try simp only [Act.put, List.setIfInBounds_toArray, List.set_cons_zero, List.set_cons_succ]
    refine wpAnyH_ready (rs := [25]) (by kernel_rfl) (by simp) ?_
    refine AllReadyH.cons (o := ({ dst := (some 78), op := (Op.call { callee := (Callee.value (Operand.func 23)), args := #[(Operand.tmp 77)], argTypes := #[22] }), type := 29, pos := "outright.go:51", after := #[{ on := 24, ground := Ground.data }, { on := 22, ground := Ground.chain }, { on := 22, ground := Ground.guard }], guard := (some (22, false)) } : Oper)) rfl (fun K hK => ?_) AllReadyH.nil
    go_simp
    go_at_call 23; (with_reducible refine (CHS.out _ (Kd.C_below HR.out HP.out.below)).mono ?_); rintro e w8 ⟨rfl, hb⟩; have HPn := Aside0.mk (HP.out.call hb); clear HP; have HP := HPn; clear HPn; clear hb
    go_wp2_with fail
    clear hHeld
    refine hK.out _ _ ?_ (fun hHeld => ?_)
    · (try dsimp only); exact rangeB (HP.out.blk 1 rfl)
    clear hK K
    try simp only [Act.put, List.setIfInBounds_toArray, List.set_cons_zero, List.set_cons_succ]
    refine wpAnyH_take (i := 26) (oi := ({ dst := (some 79), op := (Op.binOp BinOp.neq 29 (Operand.tmp 76) (Operand.tmp 78) 29), type := 4, pos := "outright.go:51", after := #[{ on := 23, ground := Ground.data }, { on := 25, ground := Ground.data }, { on := 22, ground := Ground.guard }], guard := (some (22, false)) } : Oper)) (v := ?_) rfl (by kernel_rfl) (by kernel_rfl) (by kernel_rfl) (fun _ _ _ h => h) (Or.inl ⟨by rfl, ?_⟩) hHeld ?_
    rotate_left
    · intro w_ hSw; (try dsimp only at hSw); go_simp; try (with_reducible rfl)
    try simp only [Act.put, List.setIfInBounds_toArray, List.set_cons_zero, List.set_cons_succ]
    refine wpAnyH_take (i := 27) (oi := ({ dst := (some 80), op := (Op.pick (Operand.tmp 75) (Operand.const (Value.bool true)) (Operand.tmp 79)), type := 4, pos := "outright.go:51", after := #[{ on := 22, ground := Ground.data }, { on := 26, ground := Ground.data }], guard := none } : Oper)) (v := ?_) rfl (by kernel_rfl) (by kernel_rfl) (by kernel_rfl) (fun _ _ _ h => h) (Or.inl ⟨by rfl, ?_⟩) hHeld ?_
    rotate_left
    · intro w_ hSw; (try dsimp only at hSw); go_simp; try (with_reducible rfl)
    try simp only [Act.put, List.setIfInBounds_toArray, List.set_cons_zero, List.set_cons_succ]
    refine wpAnyH_done (by kernel_rfl) ?_ _
    go_wp2_with fail
    have CCP := Aside0.mk (retconkit_CopyBytes.calls Ax cx X X _ (Kd.R_reads' (HP.out.row 2 rfl)).2.2 (Kd.R_reads' (HP.out.row 2 rfl)).2.1 (by have h1 := HX.out; have h2 := HN.out; unfold retconkit_CopyBytes.f; simp only [Option.bind_some, List.nil_append, List.length_nil]; rw [if_pos (by omega)]))
    refine CCP.out.mono ?_; rintro e wc ⟨vc, rfl, ho, hb⟩
    clear CCP
    have HPn := Aside0.mk (HP.out.newR hb ho)
    clear HP ho hb
    have HP := HPn
    clear HPn
    have hl9 : (X.length + 64) * 1 ≤ 140737488355328 := by have h1 := HX.out; have h2 := HN.out; omega
    go_wp2_with (first | ((with_reducible refine gate_builtin (b := .append) (xs := #[.tmp 82, .const (.int .i64 64)]) rfl ?_); refine ev_zeros (d := Kd.int .u8) HP.out 0 rfl (.tmp 82) (.const (.int .i64 64)) 22 3 5 (.int .u8 0) 1 rfl Try.underlying22 Try.underlying3 info5 rfl (by decide) (by decide) _ X 0 64 rfl rfl rfl rfl (by decide) hl9 ?_; intro va wa hp; clear HP; have HP := Aside0.mk hp; clear hp; obtain ⟨Aa, ca, rfl⟩ := Kd.R_slice (HP.out.row 0 rfl)))
    refine (c_failsN Aa ca (X ++ List.replicate (Int.toNat 64) 0) 4 _ (X.length + 64) (by rw [List.length_append, List.length_replicate]; rfl) (Kd.R_reads' (HP.out.row 0 rfl)).2.2 (Kd.R_reads' (HP.out.row 0 rfl)).2.1 (by have h1 := HX.out; have h2 := HN.out; simp only [List.length_append, List.length_replicate, show Int.toNat 64 = 64 from rfl]; omega) (fun x hx => by rcases List.mem_append.1 hx with h | h; exact HXB.out x h; rw [(List.mem_replicate.1 h).2]; decide) (HXL.out _ (List.take_append_of_le_length (by have h1 := HX.out; omega)) (by have h1 := HX.out; have h2 := HN.out; simp only [List.length_append, List.length_replicate, show Int.toNat 64 = 64 from rfl]; omega) (by have h1 := HX.out; have h2 := HN.out; simp only [List.length_append, List.length_replicate, show Int.toNat 64 = 64 from rfl]; omega) (by have h1 := HX.out; have h2 := HN.out; simp only [List.length_append, List.length_replicate, show Int.toNat 64 = 64 from rfl]; omega)) (by decide)).mono ?_; rintro e wf ⟨rfl, hb⟩; have HPn := Aside0.mk (HP.out.call hb); clear HP; have HP := HPn; clear HPn; clear hb
    by_cases c6 : (64 : Int) < (X.length : Int)
    · have c6b : decide ((64 : Int) < (X.length : Int)) = true := decide_eq_true c6
      obtain ⟨m, hm⟩ : ∃ m : Nat, X.length - 64 = m := ⟨_, rfl⟩
      have hmw : IntKind.i64.wrap ((X.length : Int) - 64) = (m : Int) := i64k (by omega) (by have h1 := HX.out; have h2 := HN.out; omega)
      have hcut := to8 Ax cx X m (by omega) (Kd.R_reads' (HP.out.row 3 rfl)).2.1 (m : Int) rfl
      have HM := Aside0.mk hm
      have HT := Aside0.mk (show (X.take m).length = m by rw [List.length_take]; omega)
      have HC6 := Aside0.mk c6
      clear hm c6
      go_wp2_with fail
      refine (c_failsN Ax cx (X.take m) 4 _ m HT.out.symm (by have h_ := Kd.C_take (m := m) (Kd.R_reads' (HP.out.row 3 rfl)).2.2 (by have h3 := HM.out; omega); exact h_) (by rw [HT.out]; have h3 := HM.out; have h4 := (Kd.R_reads' (HP.out.row 3 rfl)).2.1; omega) (by have h0 := HT.out; have h1 := HX.out; have h2 := HN.out; have h3 := HM.out; have h4 := HC6.out; omega) (fun x hx => HXB.out x (List.mem_of_mem_take hx)) (HXL.out _ (by rw [List.take_take, Nat.min_eq_left (by have h0 := HT.out; have h1 := HX.out; have h2 := HN.out; have h3 := HM.out; have h4 := HC6.out; omega)]) (by have h0 := HT.out; have h1 := HX.out; have h2 := HN.out; have h3 := HM.out; have h4 := HC6.out; omega) (by have h0 := HT.out; have h1 := HX.out; have h2 := HN.out; have h3 := HM.out; have h4 := HC6.out; omega) (by have h0 := HT.out; have h1 := HX.out; have h2 := HN.out; have h3 := HM.out; have h4 := HC6.out; omega)) (by decide)).mono ?_; rintro e wg ⟨rfl, hb⟩; have HPn := Aside0.mk (HP.out.call hb); clear HP; have HP := HPn; clear HPn; clear hb
      go_wp2_with fail
      have CU := Aside0.mk (c_unpack A2 c2 o _ (Kd.C_below HR2.out HP.out.below) HC2.out (by have := HO.out; omega) HB2.out)
      refine CU.out.mono ?_; rintro e wu ⟨vu, rfl, ho, hb⟩
      clear CU
      by_cases hu : unpE o = 0
      · obtain ⟨hk9, hl6, hpo, hby⟩ := unp_ok o HB2.out hu
        rw [hu, show unpK o = rd o 0 by unfold unpK; rw [if_pos hu]]
        rw [show unpB o = bodyO o by unfold unpB; rw [if_pos hu]] at ho
        obtain ⟨kk, hkk⟩ : ∃ z, rd o 0 = z := ⟨_, rfl⟩
        obtain ⟨yy, hyy⟩ : ∃ z, bodyO o = z := ⟨_, rfl⟩
        rw [hkk] at hk9 hpo
        rw [hyy] at ho hl6 hpo hby
        rw [hkk]
        have hck : chkO kk yy.length = 0 := by unfold chkO; rw [if_neg (by omega), if_neg (by omega)]
        have hpk : packR kk yy = o := by unfold packR; rw [if_pos hck, hpo]
        have HCK := Aside0.mk hck
        have HPK := Aside0.mk hpk
        have HL6 := Aside0.mk hl6
        have HBY := Aside0.mk hby
        clear hu hk9 hl6 hpo hby hkk hyy hck hpk
        have HPn := Aside0.mk (HP.out.newR hb ho)
        clear HP ho hb
        have HP := HPn
        clear HPn
        obtain ⟨Ay, cy, rfl⟩ := Kd.R_slice (HP.out.row 0 rfl)
        go_wp2_with fail
        have CPK := Aside0.mk (c_pack kk Ay cy yy _ (Kd.R_reads' (HP.out.row 0 rfl)).2.2 (Kd.R_reads' (HP.out.row 0 rfl)).2.1 (by have := HL6.out; omega) HBY.out)
        rw [HCK.out, HPK.out] at CPK
        refine CPK.out.mono ?_; rintro e wz ⟨vz, rfl, ho, hb⟩
        clear CPK
        have HPn := Aside0.mk (HP.out.newR hb ho)
        clear HP ho hb
        have HP := HPn
        clear HPn
        obtain ⟨Az, cz, rfl⟩ := Kd.R_slice (HP.out.row 0 rfl)
        go_wp2_with fail
        refine (retconkit_SameBytes.calls Az cz o A2 c2 o true _ (Kd.R_reads' (HP.out.row 0 rfl)).2.2 (Kd.R_reads' (HP.out.row 0 rfl)).2.1 (Kd.C_below HR2.out HP.out.below) HC2.out (same_f _)).mono ?_; rintro e w_ ⟨rfl, nz, rfl⟩; have HPn := Aside0.mk (HP.out.drewN nz); clear HP; have HP := HPn; clear HPn; (try simp only [World.drewN_drewN] at HP)
        go_wp2_with fail
        go_ret
        exact ⟨rfl, HP.out.below⟩
      · rw [show unpK o = 0 by unfold unpK; rw [if_neg hu]]
        rw [show unpB o = [] by unfold unpB; rw [if_neg hu]] at ho
        obtain ⟨eu, heu⟩ : ∃ z, unpE o = z := ⟨_, rfl⟩
        rw [heu] at hu
        rw [heu]
        have u1 : (eu == 0) = false := beq_eq_false_iff_ne.2 hu
        clear hu heu
        have HPn := Aside0.mk (HP.out.newR hb ho)
        clear HP ho hb
        have HP := HPn
        clear HPn
        obtain ⟨Ay, cy, rfl⟩ := Kd.R_slice (HP.out.row 0 rfl)
        go_wp2_with fail
        go_ret
        exact ⟨rfl, HP.out.below⟩
    · have c6b : decide ((64 : Int) < (X.length : Int)) = false := decide_eq_false c6
      clear c6
      go_wp2_with fail
      have CU := Aside0.mk (c_unpack A2 c2 o _ (Kd.C_below HR2.out HP.out.below) HC2.out (by have := HO.out; omega) HB2.out)
      refine CU.out.mono ?_; rintro e wu ⟨vu, rfl, ho, hb⟩
      clear CU
      by_cases hu : unpE o = 0
      · obtain ⟨hk9, hl6, hpo, hby⟩ := unp_ok o HB2.out hu
        rw [hu, show unpK o = rd o 0 by unfold unpK; rw [if_pos hu]]
        rw [show unpB o = bodyO o by unfold unpB; rw [if_pos hu]] at ho
        obtain ⟨kk, hkk⟩ : ∃ z, rd o 0 = z := ⟨_, rfl⟩
        obtain ⟨yy, hyy⟩ : ∃ z, bodyO o = z := ⟨_, rfl⟩
        rw [hkk] at hk9 hpo
        rw [hyy] at ho hl6 hpo hby
        rw [hkk]
        have hck : chkO kk yy.length = 0 := by unfold chkO; rw [if_neg (by omega), if_neg (by omega)]
        have hpk : packR kk yy = o := by unfold packR; rw [if_pos hck, hpo]
        have HCK := Aside0.mk hck
        have HPK := Aside0.mk hpk
        have HL6 := Aside0.mk hl6
        have HBY := Aside0.mk hby
        clear hu hk9 hl6 hpo hby hkk hyy hck hpk
        have HPn := Aside0.mk (HP.out.newR hb ho)
        clear HP ho hb
        have HP := HPn
        clear HPn
        obtain ⟨Ay, cy, rfl⟩ := Kd.R_slice (HP.out.row 0 rfl)
        go_wp2_with fail
        have CPK := Aside0.mk (c_pack kk Ay cy yy _ (Kd.R_reads' (HP.out.row 0 rfl)).2.2 (Kd.R_reads' (HP.out.row 0 rfl)).2.1 (by have := HL6.out; omega) HBY.out)
        rw [HCK.out, HPK.out] at CPK
        refine CPK.out.mono ?_; rintro e wz ⟨vz, rfl, ho, hb⟩
        clear CPK
        have HPn := Aside0.mk (HP.out.newR hb ho)
        clear HP ho hb
        have HP := HPn
        clear HPn
        obtain ⟨Az, cz, rfl⟩ := Kd.R_slice (HP.out.row 0 rfl)
        go_wp2_with fail
        refine (retconkit_SameBytes.calls Az cz o A2 c2 o true _ (Kd.R_reads' (HP.out.row 0 rfl)).2.2 (Kd.R_reads' (HP.out.row 0 rfl)).2.1 (Kd.C_below HR2.out HP.out.below) HC2.out (same_f _)).mono ?_; rintro e w_ ⟨rfl, nz, rfl⟩; have HPn := Aside0.mk (HP.out.drewN nz); clear HP; have HP := HPn; clear HPn; (try simp only [World.drewN_drewN] at HP)
        go_wp2_with fail
        go_ret
        exact ⟨rfl, HP.out.below⟩
      · rw [show unpK o = 0 by unfold unpK; rw [if_neg hu]]
        rw [show unpB o = [] by unfold unpB; rw [if_neg hu]] at ho
        obtain ⟨eu, heu⟩ : ∃ z, unpE o = z := ⟨_, rfl⟩
        rw [heu] at hu
        rw [heu]
        have u1 : (eu == 0) = false := beq_eq_false_iff_ne.2 hu
        clear hu heu
        have HPn := Aside0.mk (HP.out.newR hb ho)
        clear HP ho hb
        have HP := HPn
        clear HPn
        obtain ⟨Ay, cy, rfl⟩ := Kd.R_slice (HP.out.row 0 rfl)
        go_wp2_with fail
        go_ret
        exact ⟨rfl, HP.out.below⟩
  · obtain ⟨ck, hck⟩ : ∃ z, chkO a0 b.length = z := ⟨_, rfl⟩
    obtain ⟨P, hP⟩ : ∃ z, packR a0 b = z := ⟨_, rfl⟩
    obtain ⟨iv, hiv⟩ : ∃ z, idO a0 b = z := ⟨_, rfl⟩
    rw [hck] at h0
    rw [hP] at HP
    rw [hiv] at HIL
    rw [hck, hP, hiv]
    have u0 : (ck == 0) = false := beq_eq_false_iff_ne.2 h0
    clear hck hP hiv h0
    go_wp2_with (first | ((with_reducible refine gate_dst (N := 10) rfl ?_); refine ev_alloc rfl 29 rfl (.agg (u8s z32).toArray) (by kernel_rfl) ?_; intro g_id w4 hge hg hb; have HPn := Aside0.mk (HP.out.newB hb hg hge); clear HP; have HP := HPn; clear HPn; clear hge hg hb) | ((with_reducible refine gate_store (t := 29) (p := 10) rfl ?_); refine ev_store rfl 29 (.tmp 10) (.tmp 40) rfl rfl _ rfl (cells := (u8s iv).toArray) rfl (HP.out.blk 0 rfl) (by rw [List.size_toArray, u8s_len, HIL.out]; kernel_rfl) (show (u8s z32).toArray.size = (u8s iv).toArray.size from by rw [List.size_toArray, List.size_toArray, u8s_len, u8s_len, z32_len, HIL.out]) (one_u8 _) ?_; intro w5 hg hgr; have HPn := Aside0.mk (HP.out.setB 0 rfl hgr hg); clear HP; have HP := HPn; clear HPn; clear hg hgr))
    have CU := Aside0.mk (c_unpack A2 c2 o _ (Kd.C_below HR2.out HP.out.below) HC2.out (by have := HO.out; omega) HB2.out)
    refine CU.out.mono ?_; rintro e wu ⟨vu, rfl, ho, hb⟩
    clear CU
    by_cases hu : unpE o = 0
    · obtain ⟨hk9, hl6, hpo, hby⟩ := unp_ok o HB2.out hu
      rw [hu, show unpK o = rd o 0 by unfold unpK; rw [if_pos hu]]
      rw [show unpB o = bodyO o by unfold unpB; rw [if_pos hu]] at ho
      obtain ⟨kk, hkk⟩ : ∃ z, rd o 0 = z := ⟨_, rfl⟩
      obtain ⟨yy, hyy⟩ : ∃ z, bodyO o = z := ⟨_, rfl⟩
      rw [hkk] at hk9 hpo
      rw [hyy] at ho hl6 hpo hby
      rw [hkk]
      have hck : chkO kk yy.length = 0 := by unfold chkO; rw [if_neg (by omega), if_neg (by omega)]
      have hpk : packR kk yy = o := by unfold packR; rw [if_pos hck, hpo]
      have HCK := Aside0.mk hck
      have HPK := Aside0.mk hpk
      have HL6 := Aside0.mk hl6
      have HBY := Aside0.mk hby
      clear hu hk9 hl6 hpo hby hkk hyy hck hpk
      have HPn := Aside0.mk (HP.out.newR hb ho)
      clear HP ho hb
      have HP := HPn
      clear HPn
      obtain ⟨Ay, cy, rfl⟩ := Kd.R_slice (HP.out.row 0 rfl)
      go_wp2_with fail
      have CPK := Aside0.mk (c_pack kk Ay cy yy _ (Kd.R_reads' (HP.out.row 0 rfl)).2.2 (Kd.R_reads' (HP.out.row 0 rfl)).2.1 (by have := HL6.out; omega) HBY.out)
      rw [HCK.out, HPK.out] at CPK
      refine CPK.out.mono ?_; rintro e wz ⟨vz, rfl, ho, hb⟩
      clear CPK
      have HPn := Aside0.mk (HP.out.newR hb ho)
      clear HP ho hb
      have HP := HPn
      clear HPn
      obtain ⟨Az, cz, rfl⟩ := Kd.R_slice (HP.out.row 0 rfl)
      go_wp2_with fail
      refine (retconkit_SameBytes.calls Az cz o A2 c2 o true _ (Kd.R_reads' (HP.out.row 0 rfl)).2.2 (Kd.R_reads' (HP.out.row 0 rfl)).2.1 (Kd.C_below HR2.out HP.out.below) HC2.out (same_f _)).mono ?_; rintro e w_ ⟨rfl, nz, rfl⟩; have HPn := Aside0.mk (HP.out.drewN nz); clear HP; have HP := HPn; clear HPn; (try simp only [World.drewN_drewN] at HP)
      go_wp2_with fail
      go_ret
      exact ⟨rfl, HP.out.below⟩
    · rw [show unpK o = 0 by unfold unpK; rw [if_neg hu]]
      rw [show unpB o = [] by unfold unpB; rw [if_neg hu]] at ho
      obtain ⟨eu, heu⟩ : ∃ z, unpE o = z := ⟨_, rfl⟩
      rw [heu] at hu
      rw [heu]
      have u1 : (eu == 0) = false := beq_eq_false_iff_ne.2 hu
      clear hu heu
      have HPn := Aside0.mk (HP.out.newR hb ho)
      clear HP ho hb
      have HP := HPn
      clear HPn
      obtain ⟨Ay, cy, rfl⟩ := Kd.R_slice (HP.out.row 0 rfl)
      go_wp2_with fail
      go_ret
      exact ⟨rfl, HP.out.below⟩
end Go.Proofs.Ytncmbkjjoamfjaa.H
