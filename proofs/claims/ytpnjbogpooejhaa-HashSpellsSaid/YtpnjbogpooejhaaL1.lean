import Derived.Test.YtpnjbogpooejhaaK5
namespace Go.Proofs.Ytpnjbogpooejhaa.H
open Go.RowKit Go.Proofs.Ytpnjbogpooejhaa.XH Go.Proofs.YtpnjbogpooejhaaW.PrintWords Go.Proofs.YtpnjbogpooejhaaW.PrintLast Go.Proofs.YtpnjbogpooejhaaW.PrintMore Go.Proofs.YtpnjbogpooejhaaXe Go.Proofs.YtpnjbogpooejhaaXs
set_option linter.unusedVariables false
set_option linter.unusedSimpArgs false
attribute [local go_sem ↓] Go.wp_at_zero Go.wp_at_succ
attribute [local go_sem] valUpon
attribute [local go_sem ↓ high] bn23
attribute [local go_sem high] BN23.z
set_option maxHeartbeats 8000000 in
set_option maxRecDepth 100000 in
theorem hashSpells_law (id : List Int) (hl : id.length = 32) (hb : ∀ x ∈ id, 0 ≤ x ∧ x < 256) (s : ByteArray) (w : World) : Calls Try.prog 3 #[.agg (u8s id).toArray, .string s] w fun e w' => e = .returned (.bool true) ∧ Below w.heap.size w w' := by
  have HL := Aside0.mk hl
  have HBY := Aside0.mk hb
  have HP := Aside0.mk (Hp.start w)
  have CT := Aside0.mk (fun w => c_text id hl hb w)
  have CR := Aside0.mk (fun w => c_rtext id hl hb w)
  obtain ⟨tx, htx⟩ : ∃ t, strOfNums (txI id) = t := ⟨_, rfl⟩
  rw [htx] at CT CR
  by_cases hs : s.size ≤ 200
  · have d1 : decide ((s.size : Int) > 200) = false := decide_eq_false (by omega)
    have CP := Aside0.mk (fun w => c_parse s (by omega) w)
    have CQ := Aside0.mk (fun w => c_rparse s (by omega) w)
    have hpl := parS_len s
    obtain ⟨p, hp⟩ : ∃ p, (parS s).id = p := ⟨_, rfl⟩
    obtain ⟨q, hq⟩ : ∃ q, (parS s).err = q := ⟨_, rfl⟩
    obtain ⟨r, hr⟩ : ∃ r, (parS s).at_ = r := ⟨_, rfl⟩
    rw [hp, hq, hr] at CP CQ
    rw [hp] at hpl
    have HPL := Aside0.mk hpl
    have heq : ∀ d w, (Op.equalIn (d + 2) 23 (.agg (u8s p).toArray) (.agg (u8s p).toArray)).run Try.prog w = .ok true w := fun d w => by rw [eq_id d w p p hpl hpl]; simp
    have hu := Try.underlying23
    have hiid : (Try.prog.info? 23).map (·.size) = some (u8s id).length := by rw [u8s_len, hl]; kernel_rfl
    have hip : (Try.prog.info? 23).map (·.size) = some (u8s p).length := by rw [u8s_len, hpl]; kernel_rfl
    clear hp hq hr htx hl hb hs hpl
    go_enter Try.func3, Try.ntmps3
    go_wp2_with (first | ((with_reducible refine gate_dst (N := 2) rfl ?_); refine ev_box rfl 23 (.tmp 0) rfl ((u8s id).toArray) rfl ?_; intro g_i wn1 hge hg hb; have HPn := Aside0.mk (HP.out.newB hb hg hge); clear HP; have HP := HPn; clear HPn; clear hge hg hb))
    (with_reducible refine (CP.out _).mono ?_); rintro e wn2 ⟨rfl, hb⟩; have HPn := Aside0.mk (HP.out.call hb); clear HP; have HP := HPn; clear HPn; clear hb
    go_wp2_with (first | ((with_reducible refine gate_dst (N := 5) rfl ?_); refine ev_alloc rfl 23 rfl (.agg (u8s z32).toArray) (by kernel_rfl) ?_; intro g_x wxa hge hg hb; have HPn := Aside0.mk (HP.out.newB hb hg hge); clear HP; have HP := HPn; clear HPn; clear hge hg hb) | ((with_reducible refine gate_dst (N := 6) rfl ?_); refine ev_alloc rfl 27 rfl (.agg #[.int .i64 0, .int .i64 0]) (by kernel_rfl) ?_; intro g_f wxb hge hg hb; have HPn := Aside0.mk (HP.out.newB hb hg hge); clear HP; have HP := HPn; clear HPn; clear hge hg hb) | ((with_reducible refine gate_store (t := 23) (p := 5) rfl ?_); refine ev_store rfl 23 (.tmp 5) (.tmp 16) rfl rfl _ rfl (cells := (u8s p).toArray) rfl (HP.out.blk 1 rfl) (by rw [List.size_toArray, u8s_len, HPL.out]; kernel_rfl) (show (u8s z32).toArray.size = (u8s p).toArray.size from by rw [List.size_toArray, List.size_toArray, u8s_len, u8s_len, z32_len, HPL.out]) (one_u8 _) ?_; intro wxc hg hgr; have HPn := Aside0.mk (HP.out.setB 1 rfl hgr hg); clear HP; have HP := HPn; clear HPn; clear hg hgr) | ((with_reducible refine gate_store (t := 27) (p := 6) rfl ?_); refine ev_store rfl 27 (.tmp 6) (.tmp 17) rfl rfl _ rfl (cells := #[.int .i64 q, .int .i64 r]) rfl (HP.out.blk 0 rfl) (by kernel_rfl) (by rfl) (by simp [Value.oneCell']) ?_; intro wxd hg hgr; have HPn := Aside0.mk (HP.out.setB 0 rfl hgr hg); clear HP; have HP := HPn; clear HPn; clear hg hgr))
    (with_reducible refine (CQ.out _).mono ?_); rintro e wn3 ⟨rfl, hb⟩; have HPn := Aside0.mk (HP.out.call hb); clear HP; have HP := HPn; clear HPn; clear hb
    go_wp2_with (first | ((with_reducible refine gate_dst (N := 7) rfl ?_); refine ev_alloc rfl 23 rfl (.agg (u8s z32).toArray) (by kernel_rfl) ?_; intro g_y wya hge hg hb; have HPn := Aside0.mk (HP.out.newB hb hg hge); clear HP; have HP := HPn; clear HPn; clear hge hg hb) | ((with_reducible refine gate_dst (N := 8) rfl ?_); refine ev_alloc rfl 27 rfl (.agg #[.int .i64 0, .int .i64 0]) (by kernel_rfl) ?_; intro g_h wyb hge hg hb; have HPn := Aside0.mk (HP.out.newB hb hg hge); clear HP; have HP := HPn; clear HPn; clear hge hg hb) | ((with_reducible refine gate_store (t := 23) (p := 7) rfl ?_); refine ev_store rfl 23 (.tmp 7) (.tmp 21) rfl rfl _ rfl (cells := (u8s p).toArray) rfl (HP.out.blk 1 rfl) (by rw [List.size_toArray, u8s_len, HPL.out]; kernel_rfl) (show (u8s z32).toArray.size = (u8s p).toArray.size from by rw [List.size_toArray, List.size_toArray, u8s_len, u8s_len, z32_len, HPL.out]) (one_u8 _) ?_; intro wyc hg hgr; have HPn := Aside0.mk (HP.out.setB 1 rfl hgr hg); clear HP; have HP := HPn; clear HPn; clear hg hgr) | ((with_reducible refine gate_store (t := 27) (p := 8) rfl ?_); refine ev_store rfl 27 (.tmp 8) (.tmp 22) rfl rfl _ rfl (cells := #[.int .i64 q, .int .i64 r]) rfl (HP.out.blk 0 rfl) (by kernel_rfl) (by rfl) (by simp [Value.oneCell']) ?_; intro wyd hg hgr; have HPn := Aside0.mk (HP.out.setB 0 rfl hgr hg); clear HP; have HP := HPn; clear HPn; clear hg hgr))
    refine wp_region_held_drew (S := (fun w' => w'.rangeAt g_i 0 (u8s id) ∧ w'.rangeAt g_x 0 (u8s p) ∧ w'.rangeAt g_y 0 (u8s p) ∧ w'.cell? ⟨g_f, 0, none⟩ = some (.int .i64 q) ∧ w'.cell? ⟨g_f, 1, none⟩ = some (.int .i64 r) ∧ w'.cell? ⟨g_h, 0, none⟩ = some (.int .i64 q) ∧ w'.cell? ⟨g_h, 1, none⟩ = some (.int .i64 r))) (by kernel_rfl) ?_ (fun hHeld => ?_)
    · have HPn := Aside0.mk (HP.out.drewN 1)
      rw [← World.drew_is_drewN] at HPn
      clear HP
      have HP := HPn
      clear HPn
      exact ⟨rangeB (HP.out.blk 4 rfl), rangeB (HP.out.blk 3 rfl), rangeB (HP.out.blk 1 rfl), blk_cell (HP.out.blk 2 rfl) 0, blk_cell (HP.out.blk 2 rfl) 1, blk_cell (HP.out.blk 0 rfl) 0, blk_cell (HP.out.blk 0 rfl) 1⟩
    have HPn := Aside0.mk (HP.out.drewN 1)
    rw [← World.drew_is_drewN] at HPn
    clear HP
    have HP := HPn
    clear HPn
    refine wpAnyH_take (i := 0) (oi := ({ dst := (some 23), op := (Op.load 23 (Operand.tmp 2)), type := 23, pos := "law.go:51", after := #[], guard := none } : Oper)) (v := _) rfl (by kernel_rfl) (by kernel_rfl) (by kernel_rfl) (fun _ _ _ h => h) (yieldsIf_load_mid (by rfl) _ _ rfl _ _ rfl _ _ (fun w hw => hw.1) hu rfl hiid) hHeld ?_
    try simp only [Act.put, List.setIfInBounds_toArray, List.set_cons_zero, List.set_cons_succ]
    refine wpAnyH_take (i := 2) (oi := ({ dst := (some 25), op := (Op.load 23 (Operand.tmp 2)), type := 23, pos := "law.go:51", after := #[], guard := none } : Oper)) (v := _) rfl (by kernel_rfl) (by kernel_rfl) (by kernel_rfl) (fun _ _ _ h => h) (yieldsIf_load_mid (by rfl) _ _ rfl _ _ rfl _ _ (fun w hw => hw.1) hu rfl hiid) hHeld ?_
    try simp only [Act.put, List.setIfInBounds_toArray, List.set_cons_zero, List.set_cons_succ]
    refine wpAnyH_ready (rs := [1]) (by kernel_rfl) (by simp) ?_
    refine AllReadyH.cons (o := ({ dst := (some 24), op := (Op.call { callee := (Callee.value (Operand.func 13)), args := #[(Operand.tmp 23)], argTypes := #[23] }), type := 9, pos := "law.go:51", after := #[{ on := 0, ground := Ground.data }], guard := none } : Oper)) rfl (fun K hK => ?_) AllReadyH.nil
    go_simp
    go_at_call 13; (with_reducible refine (CT.out _).mono ?_); rintro e w5 ⟨rfl, hb⟩; have HPn := Aside0.mk (HP.out.call hb); clear HP; have HP := HPn; clear HPn; clear hb
    go_wp2_with fail
    clear hHeld
    refine hK.out _ _ ?_ (fun hHeld => ?_)
    · (try dsimp only); exact ⟨rangeB (HP.out.blk 4 rfl), rangeB (HP.out.blk 3 rfl), rangeB (HP.out.blk 1 rfl), blk_cell (HP.out.blk 2 rfl) 0, blk_cell (HP.out.blk 2 rfl) 1, blk_cell (HP.out.blk 0 rfl) 0, blk_cell (HP.out.blk 0 rfl) 1⟩
    clear hK K
    try simp only [Act.put, List.setIfInBounds_toArray, List.set_cons_zero, List.set_cons_succ]
    refine wpAnyH_ready (rs := [3]) (by kernel_rfl) (by simp) ?_
    refine AllReadyH.cons (o := ({ dst := (some 26), op := (Op.call { callee := (Callee.value (Operand.func 14)), args := #[(Operand.tmp 25)], argTypes := #[23] }), type := 9, pos := "law.go:51", after := #[{ on := 2, ground := Ground.data }, { on := 1, ground := Ground.chain }], guard := none } : Oper)) rfl (fun K hK => ?_) AllReadyH.nil
    go_simp
    go_at_call 14; (with_reducible refine (CR.out _).mono ?_); rintro e w5 ⟨rfl, hb⟩; have HPn := Aside0.mk (HP.out.call hb); clear HP; have HP := HPn; clear HPn; clear hb
    go_wp2_with fail
    clear hHeld
    refine hK.out _ _ ?_ (fun hHeld => ?_)
    · (try dsimp only); exact ⟨rangeB (HP.out.blk 4 rfl), rangeB (HP.out.blk 3 rfl), rangeB (HP.out.blk 1 rfl), blk_cell (HP.out.blk 2 rfl) 0, blk_cell (HP.out.blk 2 rfl) 1, blk_cell (HP.out.blk 0 rfl) 0, blk_cell (HP.out.blk 0 rfl) 1⟩
    clear hK K
    try simp only [Act.put, List.setIfInBounds_toArray, List.set_cons_zero, List.set_cons_succ]
    refine wpAnyH_take (i := 4) (oi := ({ dst := (some 27), op := (Op.binOp BinOp.eql 9 (Operand.tmp 24) (Operand.tmp 26) 9), type := 4, pos := "law.go:51", after := #[{ on := 1, ground := Ground.data }, { on := 3, ground := Ground.data }], guard := none } : Oper)) (v := ?_) rfl (by kernel_rfl) (by kernel_rfl) (by kernel_rfl) (fun _ _ _ h => h) (Or.inl ⟨by rfl, ?_⟩) hHeld ?_
    rotate_left
    · intro w_ hSw; (try dsimp only at hSw); go_simp; try (with_reducible rfl)
    try simp only [Act.put, List.setIfInBounds_toArray, List.set_cons_zero, List.set_cons_succ]
    refine wpAnyH_take (i := 5) (oi := ({ dst := (some 28), op := (Op.move (Operand.tmp 27)), type := 4, pos := "law.go:51", after := #[{ on := 4, ground := Ground.data }, { on := 3, ground := Ground.chain }], guard := none } : Oper)) (v := ?_) rfl (by kernel_rfl) (by kernel_rfl) (by kernel_rfl) (fun _ _ _ h => h) (Or.inl ⟨by rfl, ?_⟩) hHeld ?_
    rotate_left
    · intro w_ hSw; (try dsimp only at hSw); go_simp; try (with_reducible rfl)
    try simp only [Act.put, List.setIfInBounds_toArray, List.set_cons_zero, List.set_cons_succ]
    refine wpAnyH_take (i := 6) (oi := ({ dst := (some 29), op := (Op.load 23 (Operand.tmp 5)), type := 23, pos := "law.go:51", after := #[{ on := 5, ground := Ground.guard }], guard := (some (5, true)) } : Oper)) (v := _) rfl (by kernel_rfl) (by kernel_rfl) (by kernel_rfl) (fun _ _ _ h => h) (yieldsIf_load_mid (by rfl) _ _ rfl _ _ rfl _ _ (fun w hw => hw.2.1) hu rfl hip) hHeld ?_
    try simp only [Act.put, List.setIfInBounds_toArray, List.set_cons_zero, List.set_cons_succ]
    refine wpAnyH_take (i := 7) (oi := ({ dst := (some 30), op := (Op.load 23 (Operand.tmp 7)), type := 23, pos := "law.go:51", after := #[{ on := 5, ground := Ground.guard }], guard := (some (5, true)) } : Oper)) (v := _) rfl (by kernel_rfl) (by kernel_rfl) (by kernel_rfl) (fun _ _ _ h => h) (yieldsIf_load_mid (by rfl) _ _ rfl _ _ rfl _ _ (fun w hw => hw.2.2.1) hu rfl hip) hHeld ?_
    try simp only [Act.put, List.setIfInBounds_toArray, List.set_cons_zero, List.set_cons_succ]
    refine wpAnyH_take (i := 8) (oi := ({ dst := (some 31), op := (Op.binOp BinOp.eql 23 (Operand.tmp 29) (Operand.tmp 30) 23), type := 4, pos := "law.go:51", after := #[{ on := 6, ground := Ground.data }, { on := 7, ground := Ground.data }, { on := 5, ground := Ground.guard }], guard := (some (5, true)) } : Oper)) (v := ?_) rfl (by kernel_rfl) (by kernel_rfl) (by kernel_rfl) (fun _ _ _ h => h) (Or.inl ⟨by rfl, ?_⟩) hHeld ?_
    rotate_left
    · intro w_ hSw; (try dsimp only at hSw); go_simp; try (with_reducible rfl)
    try simp only [Act.put, List.setIfInBounds_toArray, List.set_cons_zero, List.set_cons_succ]
    refine wpAnyH_take (i := 9) (oi := ({ dst := (some 32), op := (Op.pick (Operand.tmp 28) (Operand.tmp 31) (Operand.const (Value.bool false))), type := 4, pos := "law.go:51", after := #[{ on := 5, ground := Ground.data }, { on := 8, ground := Ground.data }], guard := none } : Oper)) (v := ?_) rfl (by kernel_rfl) (by kernel_rfl) (by kernel_rfl) (fun _ _ _ h => h) (Or.inl ⟨by rfl, ?_⟩) hHeld ?_
    rotate_left
    · intro w_ hSw; (try dsimp only at hSw); go_simp; try (with_reducible rfl)
    try simp only [Act.put, List.setIfInBounds_toArray, List.set_cons_zero, List.set_cons_succ]
    refine wpAnyH_take (i := 10) (oi := ({ dst := (some 33), op := (Op.move (Operand.tmp 32)), type := 4, pos := "law.go:51", after := #[{ on := 9, ground := Ground.data }, { on := 5, ground := Ground.chain }], guard := none } : Oper)) (v := ?_) rfl (by kernel_rfl) (by kernel_rfl) (by kernel_rfl) (fun _ _ _ h => h) (Or.inl ⟨by rfl, ?_⟩) hHeld ?_
    rotate_left
    · intro w_ hSw; (try dsimp only at hSw); go_simp; try (with_reducible rfl)
    try simp only [Act.put, List.setIfInBounds_toArray, List.set_cons_zero, List.set_cons_succ]
    refine wpAnyH_take (i := 11) (oi := ({ dst := (some 34), op := (Op.load 27 (Operand.tmp 6)), type := 27, pos := "law.go:51", after := #[{ on := 10, ground := Ground.guard }], guard := (some (10, true)) } : Oper)) (v := ?_) rfl (by kernel_rfl) (by kernel_rfl) (by kernel_rfl) (fun _ _ _ h => h) (Or.inl ⟨by rfl, ?_⟩) hHeld ?_
    rotate_left
    · intro w_ hSw; (try dsimp only at hSw); go_simp; try (with_reducible rfl)
    try simp only [Act.put, List.setIfInBounds_toArray, List.set_cons_zero, List.set_cons_succ]
    refine wpAnyH_take (i := 12) (oi := ({ dst := (some 35), op := (Op.load 27 (Operand.tmp 8)), type := 27, pos := "law.go:51", after := #[{ on := 10, ground := Ground.guard }], guard := (some (10, true)) } : Oper)) (v := ?_) rfl (by kernel_rfl) (by kernel_rfl) (by kernel_rfl) (fun _ _ _ h => h) (Or.inl ⟨by rfl, ?_⟩) hHeld ?_
    rotate_left
    · intro w_ hSw; (try dsimp only at hSw); go_simp; try (with_reducible rfl)
    try simp only [Act.put, List.setIfInBounds_toArray, List.set_cons_zero, List.set_cons_succ]
    refine wpAnyH_take (i := 13) (oi := ({ dst := (some 36), op := (Op.binOp BinOp.eql 27 (Operand.tmp 34) (Operand.tmp 35) 27), type := 4, pos := "law.go:51", after := #[{ on := 11, ground := Ground.data }, { on := 12, ground := Ground.data }, { on := 10, ground := Ground.guard }], guard := (some (10, true)) } : Oper)) (v := ?_) rfl (by kernel_rfl) (by kernel_rfl) (by kernel_rfl) (fun _ _ _ h => h) (Or.inl ⟨by rfl, ?_⟩) hHeld ?_
    rotate_left
    · intro w_ hSw; (try dsimp only at hSw); go_simp; try (with_reducible rfl)
    try simp only [Act.put, List.setIfInBounds_toArray, List.set_cons_zero, List.set_cons_succ]
    refine wpAnyH_take (i := 14) (oi := ({ dst := (some 37), op := (Op.pick (Operand.tmp 33) (Operand.tmp 36) (Operand.const (Value.bool false))), type := 4, pos := "law.go:51", after := #[{ on := 10, ground := Ground.data }, { on := 13, ground := Ground.data }], guard := none } : Oper)) (v := ?_) rfl (by kernel_rfl) (by kernel_rfl) (by kernel_rfl) (fun _ _ _ h => h) (Or.inl ⟨by rfl, ?_⟩) hHeld ?_
    rotate_left
    · intro w_ hSw; (try dsimp only at hSw); go_simp; try (with_reducible rfl)
    try simp only [Act.put, List.setIfInBounds_toArray, List.set_cons_zero, List.set_cons_succ]
    refine wpAnyH_take (i := 15) (oi := ({ dst := (some 38), op := (Op.move (Operand.tmp 37)), type := 4, pos := "law.go:51", after := #[{ on := 14, ground := Ground.data }, { on := 10, ground := Ground.chain }], guard := none } : Oper)) (v := ?_) rfl (by kernel_rfl) (by kernel_rfl) (by kernel_rfl) (fun _ _ _ h => h) (Or.inl ⟨by rfl, ?_⟩) hHeld ?_
    rotate_left
    · intro w_ hSw; (try dsimp only at hSw); go_simp; try (with_reducible rfl)
    try simp only [Act.put, List.setIfInBounds_toArray, List.set_cons_zero, List.set_cons_succ]
    refine wpAnyH_ready (rs := [16]) (by kernel_rfl) (by simp) ?_
    refine AllReadyH.cons (o := ({ dst := (some 39), op := (Op.call { callee := (Callee.value (Operand.func 10)), args := #[], argTypes := #[] }), type := 4, pos := "law.go:51", after := #[{ on := 15, ground := Ground.chain }, { on := 15, ground := Ground.guard }], guard := (some (15, true)) } : Oper)) rfl (fun K hK => ?_) AllReadyH.nil
    go_simp
    go_at_call 10; (with_reducible refine (c_awake _).mono ?_); rintro e w5 ⟨rfl, hb⟩; have HPn := Aside0.mk (HP.out.call hb); clear HP; have HP := HPn; clear HPn; clear hb
    go_wp2_with fail
    clear hHeld
    refine hK.out _ _ ?_ (fun hHeld => ?_)
    · (try dsimp only); exact ⟨rangeB (HP.out.blk 4 rfl), rangeB (HP.out.blk 3 rfl), rangeB (HP.out.blk 1 rfl), blk_cell (HP.out.blk 2 rfl) 0, blk_cell (HP.out.blk 2 rfl) 1, blk_cell (HP.out.blk 0 rfl) 0, blk_cell (HP.out.blk 0 rfl) 1⟩
    clear hK K
    try simp only [Act.put, List.setIfInBounds_toArray, List.set_cons_zero, List.set_cons_succ]
    refine wpAnyH_take (i := 17) (oi := ({ dst := (some 40), op := (Op.pick (Operand.tmp 38) (Operand.tmp 39) (Operand.const (Value.bool false))), type := 4, pos := "law.go:51", after := #[{ on := 15, ground := Ground.data }, { on := 16, ground := Ground.data }], guard := none } : Oper)) (v := ?_) rfl (by kernel_rfl) (by kernel_rfl) (by kernel_rfl) (fun _ _ _ h => h) (Or.inl ⟨by rfl, ?_⟩) hHeld ?_
    rotate_left
    · intro w_ hSw; (try dsimp only at hSw); go_simp; try (with_reducible rfl)
    try simp only [Act.put, List.setIfInBounds_toArray, List.set_cons_zero, List.set_cons_succ]
    refine wpAnyH_take (i := 18) (oi := ({ dst := (some 4), op := (Op.assign (Operand.tmp 40)), type := 4, pos := "law.go:51", after := #[{ on := 17, ground := Ground.data }, { on := 16, ground := Ground.chain }, { on := 0, ground := Ground.phase }, { on := 1, ground := Ground.phase }, { on := 2, ground := Ground.phase }, { on := 3, ground := Ground.phase }, { on := 4, ground := Ground.phase }, { on := 5, ground := Ground.phase }, { on := 6, ground := Ground.phase }, { on := 7, ground := Ground.phase }, { on := 8, ground := Ground.phase }, { on := 9, ground := Ground.phase }, { on := 10, ground := Ground.phase }, { on := 11, ground := Ground.phase }, { on := 12, ground := Ground.phase }, { on := 13, ground := Ground.phase }, { on := 14, ground := Ground.phase }, { on := 15, ground := Ground.phase }, { on := 16, ground := Ground.phase }, { on := 17, ground := Ground.phase }], guard := none } : Oper)) (v := ?_) rfl (by kernel_rfl) (by kernel_rfl) (by kernel_rfl) (fun _ _ _ h => h) (Or.inl ⟨by rfl, ?_⟩) hHeld ?_
    rotate_left
    · intro w_ hSw; (try dsimp only at hSw); go_simp; try (with_reducible rfl)
    try simp only [Act.put, List.setIfInBounds_toArray, List.set_cons_zero, List.set_cons_succ]
    refine wpAnyH_done (by kernel_rfl) ?_ _
    go_wp2
    go_ret
    exact ⟨rfl, HP.out.below⟩
  · have d1 : decide ((s.size : Int) > 200) = true := decide_eq_true (by omega)
    clear CT CR htx hl hb hs
    go_enter Try.func3, Try.ntmps3
    go_wp2_with (first | ((with_reducible refine gate_dst (N := 2) rfl ?_); refine ev_box rfl 23 (.tmp 0) rfl ((u8s id).toArray) rfl ?_; intro g_i wn1 hge hg hb; have HPn := Aside0.mk (HP.out.newB hb hg hge); clear HP; have HP := HPn; clear HPn; clear hge hg hb))
    (with_reducible refine (c_awake _).mono ?_); rintro e wn2 ⟨rfl, hb⟩; have HPn := Aside0.mk (HP.out.call hb); clear HP; have HP := HPn; clear HPn; clear hb
    go_wp2_with fail
    go_ret
    exact ⟨rfl, HP.out.below⟩
end Go.Proofs.Ytpnjbogpooejhaa.H
