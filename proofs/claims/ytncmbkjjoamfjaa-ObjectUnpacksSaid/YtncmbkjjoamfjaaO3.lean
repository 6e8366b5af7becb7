import Derived.Test.YtncmbkjjoamfjaaO2
namespace Go.Proofs.Ytncmbkjjoamfjaa.H
open Go.RowKit Go.Proofs.Ytncmbkjjoamfjaa.XH Go.Proofs.YtncmbkjjoamfjaaW.PrintWords Go.Proofs.YtncmbkjjoamfjaaW.PrintLast Go.Proofs.YtncmbkjjoamfjaaW.PrintMore Go.Proofs.YtncmbkjjoamfjaaXe Go.Proofs.YtncmbkjjoamfjaaXs
set_option linter.unusedVariables false
set_option linter.unusedSimpArgs false
attribute [local go_sem ↓] Go.wp_at_zero Go.wp_at_succ
attribute [local go_sem] valUpon
attribute [local go_sem ↓ high] bn29
attribute [local go_sem high] BN29.z
set_option maxHeartbeats 8000000 in
set_option maxRecDepth 100000 in
theorem c_rpack (kind : Int) (A : Option Addr) (c : Nat) (b : List Int) (w : World) (hr : Kd.C (Kd.int .u8) w A b.length b) (hc : b.length ≤ c) (hm : b.length ≤ 1000000) (hB : Bytes b) :
    Calls Try.prog 11 #[.int .i64 kind, .slice A b.length c] w fun e w' => ∃ v, e = .returned (.tuple #[v, .int .i64 (chkO kind b.length)]) ∧ Kd.R (Kd.int .u8) 5 w' w.heap.size (fun _ => True) v (packR kind b) ∧ Below w.heap.size w w' := by
  have HR := Aside0.mk hr
  have HC := Aside0.mk hc
  have HM := Aside0.mk hm
  have CI := Aside0.mk (fun w hr => c_rid kind A c b w hr hc hm hB)
  obtain ⟨ck, hck⟩ : ∃ z, chkO kind b.length = z := ⟨_, rfl⟩
  have HCK := Aside0.mk hck
  rw [hck] at CI
  rw [hck]
  have HP := Aside0.mk (Hp.start w)
  clear hr hc hm hB hck
  by_cases h0 : ck = 0
  · subst h0
    rw [show idO kind b = sha b from by unfold idO; rw [if_pos HCK.out]] at CI
    rw [show packR kind b = packO kind b from by unfold packR; rw [if_pos HCK.out]]
    have hbl : b.length ≤ 65536 := by
      have h := HCK.out
      unfold chkO at h
      split at h
      · omega
      · split at h <;> omega
    have HBL := Aside0.mk hbl
    obtain ⟨n, hn⟩ : ∃ z : Int, (b.length : Int) = z := ⟨_, rfl⟩
    obtain ⟨s1, hs1⟩ : ∃ z, (b.length : Int) / 16777216 = z := ⟨_, rfl⟩
    obtain ⟨s2, hs2⟩ : ∃ z, (b.length : Int) / 65536 = z := ⟨_, rfl⟩
    obtain ⟨s3, hs3⟩ : ∃ z, (b.length : Int) / 256 = z := ⟨_, rfl⟩
    have t1 : (b.length : Int) / 2 ^ min (24 : Int).toNat IntKind.i64.bits = s1 := hs1
    have t2 : (b.length : Int) / 2 ^ min (16 : Int).toNat IntKind.i64.bits = s2 := hs2
    have t3 : (b.length : Int) / 2 ^ min (8 : Int).toNat IntKind.i64.bits = s3 := hs3
    have HSL := Aside0.mk (sha_len' b)
    have HHD := Aside0.mk (show [kind % 256, s1 % 256, s2 % 256, s3 % 256, (b.length : Int) % 256] ++ sha b = headO kind b by rw [← hs1, ← hs2, ← hs3]; rfl)
    have hcut2 : ∀ (g : Nat) (w : World), (Instr.sliceAt 29 (.pointer (some ⟨g, 0, none⟩)) none none none).run Try.prog w = .ok (.slice (some ⟨g, 0, none⟩) 32 32) w := fun g w => run_cut_all (P := Try.prog) Try.underlying29 (by kernel_rfl) (by decide) g 0 w
    obtain ⟨P0, hP0⟩ : ∃ z, headO kind b ++ b = z := ⟨_, rfl⟩
    have hpl : P0.length = 37 + b.length := by rw [← hP0]; simp [headO_len]
    obtain ⟨m2, hm2⟩ : ∃ z, (secO (b.length : Int) * 64).toNat - (37 + b.length) = z := ⟨_, rfl⟩
    have hscv : secO (b.length : Int) = ((b.length : Int) + 100) / 64 := by unfold secO; have := HBL.out; rw [if_neg (by omega)]
    have HPK := Aside0.mk (show P0 ++ List.replicate m2 0 = packO kind b by unfold packO; rw [← hP0, hm2, List.append_assoc])
    have HMM := Aside0.mk (show ∀ j : Nat, j ≤ m2 → ((37 + b.length + j) % 64 = 0 ↔ j = m2) by
      intro j hj
      have := HBL.out
      omega)
    have HPL := Aside0.mk hpl
    have HM64 := Aside0.mk (show m2 ≤ 64 by have := HBL.out; omega)
    have HP0 := Aside0.mk hP0
    clear hbl hn hP0 hm2 hscv hpl
    go_enter Try.func11, Try.ntmps11
    go_wp2_with fail
    (with_reducible refine (CI.out _ HR.out).mono ?_); rintro e wn1 ⟨rfl, hb⟩; have HPn := Aside0.mk (HP.out.call hb); clear HP; have HP := HPn; clear HPn; clear hb
    go_wp2_with (first | ((with_reducible refine gate_dst (N := 6) rfl ?_); refine ev_alloc rfl 29 rfl (.agg (u8s z32).toArray) (by kernel_rfl) ?_; intro g_i wn2 hge hg hb; have HPn := Aside0.mk (HP.out.newB hb hg hge); clear HP; have HP := HPn; clear HPn; clear hge hg hb) | ((with_reducible refine gate_store (t := 29) (p := 6) rfl ?_); refine ev_store rfl 29 (.tmp 6) (.tmp 14) rfl rfl _ rfl (cells := (u8s (sha b)).toArray) rfl (HP.out.blk 0 rfl) (by rw [List.size_toArray, u8s_len, sha_len']; kernel_rfl) (show (u8s z32).toArray.size = (u8s (sha b)).toArray.size from by rw [List.size_toArray, List.size_toArray, u8s_len, u8s_len, z32_len, sha_len']) (one_u8 _) ?_; intro wn3 hg hgr; have HPn := Aside0.mk (HP.out.setB 0 rfl hgr hg); clear HP; have HP := HPn; clear HPn; clear hg hgr) | ((with_reducible refine gate_dst (N := 34) rfl ?_); refine ev_lit (d := Kd.int .u8) HP.out 5 (xs := [kind % 256, s1 % 256, s2 % 256, s3 % 256, (b.length : Int) % 256]) (inner := [kind % 256, s1 % 256, s2 % 256, s3 % 256, (b.length : Int) % 256].map (Value.int .u8)) rfl (N := 34) rfl ?hr34 (reps_ints _ _ _ _) (by simp) ?_; (case hr34 => first | (go_simp; done) | (go_simp; rfl)); intro v_l wl hpn; clear HP; have HP := Aside0.mk hpn; clear hpn; obtain ⟨A_l, c_l, rfl⟩ := Kd.R_slice (HP.out.row 0 rfl)) | ((with_reducible refine gate_builtin (b := .append) (xs := #[.tmp 35, .tmp 36]) rfl ?_); at_builtin; refine ev_append (plain_int .u8) HP.out 0 rfl (.tmp 35) (.tmp 36) 22 5 (.int .u8 0) 1 rfl Try.underlying22 info5 rfl (by decide) (by omega) _ _ (sha b) _ _ _ rfl rfl rfl (show Kd.C (Kd.int .u8) _ (some ⟨g_i, 0, none⟩) 32 (sha b) from by have h := C_blkW (k := .u8) (HP.out.blk 1 rfl) (by rw [sha_len']; decide); rwa [sha_len'] at h) (by simp [sha_len']) ?_; intro v_a w5 hp; rw [HHD.out] at hp; clear HP; have HP := Aside0.mk hp; clear hp; obtain ⟨A_a, c_a, rfl⟩ := Kd.R_slice (HP.out.row 0 rfl)) | ((with_reducible refine gate_builtin (b := .append) (xs := #[.tmp 37, .tmp 38]) rfl ?_); at_builtin; refine ev_append (plain_int .u8) HP.out 0 rfl (.tmp 37) (.tmp 38) 22 5 (.int .u8 0) 1 rfl Try.underlying22 info5 rfl (by decide) (by omega) _ (headO kind b) b _ _ _ rfl rfl rfl (Kd.C_below HR.out HP.out.below) (by rw [headO_len]; have := HBL.out; omega) ?_; intro v_a w6 hp; rw [HP0.out] at hp; clear HP; have HP := Aside0.mk hp; clear hp; obtain ⟨A_a, c_a, rfl⟩ := Kd.R_slice (HP.out.row 0 rfl)))
    have HP1 := Aside0.mk (show Hp w w6 [.row (Kd.int .u8) 5 w.heap.size (.slice A_a P0.length c_a) (P0 ++ List.replicate 0 0), .blk g_i (.cells (u8s (sha b)).toArray 29 (0, 0))] from by rw [show P0 ++ List.replicate 0 0 = P0 from List.append_nil _]; exact HP.out)
    clear HP t1 t2 t3 hcut2 hs1 hs2 hs3
    go_loopg [9] m2 (fun kq v9 w' => ∃ (j : Nat), Aside0 (kq + j = m2) ∧ Aside0 (Hp w w' [.row (Kd.int .u8) 5 w.heap.size v9 (P0 ++ List.replicate j 0), .blk g_i (.cells (u8s (sha b)).toArray 29 (0, 0))]))
    case atStart => exact ⟨0, ⟨rfl⟩, HP1⟩
    clear HP1
    obtain ⟨j, HK, HP⟩ := hrel
    obtain ⟨l, hl⟩ : ∃ z, P0 ++ List.replicate j 0 = z := ⟨_, rfl⟩
    have hll : l.length = 37 + b.length + j := by rw [← hl, List.length_append, List.length_replicate, HPL.out]
    rw [hl] at HP
    have HL := Aside0.mk hl
    obtain ⟨A9, c9, rfl⟩ := Kd.R_slice (HP.out.row 0 rfl)
    obtain ⟨r, hr⟩ : ∃ z : Int, (l.length : Int) % 64 = z := ⟨_, rfl⟩
    have er : Int.tmod (l.length : Int) 64 = r := by rw [Int.tmod_eq_emod_of_nonneg (by omega)]; exact hr
    have hmm := HMM.out j (by have := HK.out; omega)
    have hbb := HBL.out
    have h64 := HM64.out
    have HLB := Aside0.mk (show l.length ≤ 100000 by have := HK.out; omega)
    by_cases c1 : j = m2
    · have d1 : (r != 0) = false := bne_eq_false_iff_eq.2 (by have := hmm.2 c1; omega)
      clear hl hll hr hmm hbb h64
      subst c1
      go_wp2_with fail
      refine bodyPost_ret (results_two_tmps rfl _ _ rfl rfl) rfl ?_
      refine ⟨_, rfl, ?_, HP.out.below⟩
      rw [← HPK.out, HL.out]
      exact HP.out.row 0 rfl
    · have d1 : (r != 0) = true := bne_iff_ne.2 (by intro h; exact c1 (hmm.1 (by omega)))
      have HC1 := Aside0.mk c1
      clear hl hll hr hmm hbb h64 c1
      go_wp2_with (first | ((with_reducible refine gate_dst (N := 45) rfl ?_); refine ev_lit (d := Kd.int .u8) HP.out 5 (xs := [0]) (inner := [(0 : Int)].map (Value.int .u8)) rfl (N := 45) rfl ?hr45 (reps_ints _ _ _ _) (by simp) ?_; (case hr45 => first | (go_simp; done) | (go_simp; rfl)); intro v_l wl hpn; clear HP; have HP := Aside0.mk hpn; clear hpn; obtain ⟨A_l, c_l, rfl⟩ := Kd.R_slice (HP.out.row 0 rfl)) | ((with_reducible refine gate_builtin (b := .append) (xs := #[.tmp 44, .tmp 45]) rfl ?_); at_builtin; refine ev_append (plain_int .u8) HP.out 1 rfl (.tmp 44) (.tmp 45) 22 5 (.int .u8 0) 1 rfl Try.underlying22 info5 rfl (by decide) (by omega) _ l [0] _ _ _ rfl rfl rfl (Kd.R_reads' (HP.out.row 0 rfl)).2.2 (by have := HLB.out; simp only [List.length_cons, List.length_nil]; omega) ?_; intro v_a w8 hp; clear HP; have HP := Aside0.mk hp; clear hp; obtain ⟨A_a, c_a, rfl⟩ := Kd.R_slice (HP.out.row 1 rfl)))
      have HPn := Aside0.mk (Hp.drop1 HP.out)
      have HPm := Aside0.mk (show Hp w w8 [.row (Kd.int .u8) 5 w.heap.size (.slice A_a (l ++ [0]).length c_a) (P0 ++ List.replicate (j + 1) 0), .blk g_i (.cells (u8s (sha b)).toArray 29 (0, 0))] from by rw [show P0 ++ List.replicate (j + 1) 0 = l ++ [0] from by rw [← HL.out, List.replicate_succ', List.append_assoc]]; exact HPn.out)
      go_roundg (gk - 1)
      case measure => have := HK.out; have := HC1.out; omega
      case rel => exact ⟨j + 1, ⟨by have := HK.out; have := HC1.out; omega⟩, by first | exact HPm | (simp only [List.length_append, List.length_singleton] at HPm; exact HPm)⟩
  · have d0 : (ck != 0) = true := bne_iff_ne.2 h0
    have HPK := Aside0.mk (show packR kind b = [] from by unfold packR; rw [if_neg (by rw [HCK.out]; exact h0)])
    have HIL := Aside0.mk (idO_len kind b)
    rw [HPK.out]
    clear h0
    go_enter Try.func11, Try.ntmps11
    go_wp2_with fail
    (with_reducible refine (CI.out _ HR.out).mono ?_); rintro e wn1 ⟨rfl, hb⟩; have HPn := Aside0.mk (HP.out.call hb); clear HP; have HP := HPn; clear HPn; clear hb
    go_wp2_with (first | ((with_reducible refine gate_dst (N := 6) rfl ?_); refine ev_alloc rfl 29 rfl (.agg (u8s z32).toArray) (by kernel_rfl) ?_; intro g_i wn2 hge hg hb; have HPn := Aside0.mk (HP.out.newB hb hg hge); clear HP; have HP := HPn; clear HPn; clear hge hg hb) | ((with_reducible refine gate_store (t := 29) (p := 6) rfl ?_); refine ev_store rfl 29 (.tmp 6) (.tmp 14) rfl rfl _ rfl (cells := (u8s (idO kind b)).toArray) rfl (HP.out.blk 0 rfl) (by rw [List.size_toArray, u8s_len, HIL.out]; kernel_rfl) (show (u8s z32).toArray.size = (u8s (idO kind b)).toArray.size from by rw [List.size_toArray, List.size_toArray, u8s_len, u8s_len, z32_len, HIL.out]) (one_u8 _) ?_; intro wn3 hg hgr; have HPn := Aside0.mk (HP.out.setB 0 rfl hgr hg); clear HP; have HP := HPn; clear HPn; clear hg hgr))
    refine bodyPost_ret (results_two_tmps rfl _ _ rfl rfl) rfl ?_
    exact ⟨.slice none 0 0, rfl, Kd.R_nil _ _ _ _ _, HP.out.below⟩
end Go.Proofs.Ytncmbkjjoamfjaa.H
