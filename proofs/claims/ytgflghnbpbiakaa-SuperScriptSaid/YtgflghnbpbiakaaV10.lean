import Derived.Test.YtgflghnbpbiakaaV09
namespace Go.Proofs.Ytgflghnbpbiakaa.Su
open Go.Proofs.Ytgflghnbpbiakaa.H hiding C_ints cellL cellN ev_copy ev_store_mid frozC i64k run_cut_all run_cut_arr run_cut_to setL set_self
open Go.RowKit Go.Proofs.Ytgflghnbpbiakaa.XH Go.Proofs.YtgflghnbpbiakaaW.PrintWords Go.Proofs.YtgflghnbpbiakaaW.PrintLast Go.Proofs.YtgflghnbpbiakaaW.PrintMore Go.Proofs.YtgflghnbpbiakaaXe Go.Proofs.YtgflghnbpbiakaaXs
set_option linter.unusedVariables false
set_option linter.unusedSimpArgs false
attribute [local go_sem ↓] Go.wp_at_zero Go.wp_at_succ
attribute [local go_sem] valUpon
attribute [local go_sem ↓ high] bn23 bn25
attribute [local go_sem high] BN25.z BN25.num BN25.two BN25.three
theorem fif_parts (s : SP) {N8 M4 Z4 L1 L2 L3 L4 : List Int} (h8 : highI s.num 8 = N8) (h4 : highI s.at' 4 = M4) (hz : highI s.size 4 = Z4) (e1 : ([82, 67] ++ N8 : List Int) = L1) (e2 : L1 ++ s.root = L2) (e3 : L2 ++ M4 = L3) (e4 : L3 ++ Z4 = L4) : L4 = fifS s := by
  subst h8 h4 hz e1 e2 e3 e4
  simp [fifS]
set_option maxHeartbeats 8000000 in
set_option maxRecDepth 100000 in
theorem c_rspack (s : SP) (hl : s.root.length = 32) (hB : Bytes s.root) (hk : chk s = true) (w : World) :
    Calls Try.prog 10 #[.agg (c25 s).toArray] w fun e w' => ∃ v, e = .returned (.tuple #[v, .int .i64 0]) ∧ Kd.R (Kd.int .u8) 5 w' w.heap.size (fun _ => True) v (packS s) ∧ Below w.heap.size w w' := by
  have HE := Aside0.mk (And.intro (c25_0 s) (And.intro (c25_33 s hl) (c25_34 s hl)))
  have CK := Aside0.mk (fun w => c_rcheck s hl w)
  rw [show chkE s = 0 from by unfold chkE; rw [if_pos hk]] at CK
  have HCR := Aside0.mk (fun (w : World) (g : Nat) (hg : w.heap[g]? = some (.cells (c25 s).toArray 25 (0, 0))) => C_root s hl hg)
  have HLC := Aside0.mk (c25_len s hl)
  have HFB := Aside0.mk (fifS_bytes s hB)
  have HFL := Aside0.mk (fifS_len s hl)
  have CH8 := Aside0.mk (fun w => c_rhigh s.num 8 (by decide) w)
  have CHA := Aside0.mk (fun w => c_rhigh s.at' 4 (by decide) w)
  have CHZ := Aside0.mk (fun w => c_rhigh s.size 4 (by decide) w)
  have HPARTS := Aside0.mk (fun {N8 M4 Z4 L1 L2 L3 L4 : List Int} h8 h4 hz e1 e2 e3 e4 => fif_parts s (N8 := N8) (M4 := M4) (Z4 := Z4) (L1 := L1) (L2 := L2) (L3 := L3) (L4 := L4) h8 h4 hz e1 e2 e3 e4)
  have HPS := Aside0.mk (show packS s = fifS s ++ (sha (fifS s)).take 14 from rfl)
  obtain ⟨X, hX⟩ : ∃ z, packS s = z := ⟨_, rfl⟩
  obtain ⟨fs, hfs⟩ : ∃ z, fifS s = z := ⟨_, rfl⟩
  rw [hX, hfs] at HPS
  rw [hfs] at HFB HFL HPARTS
  rw [hX]
  obtain ⟨cs, hcs⟩ : ∃ z, c25 s = z := ⟨_, rfl⟩
  rw [hcs] at HE CK HCR HLC ⊢
  obtain ⟨rt, hrt⟩ : ∃ z, s.root = z := ⟨_, rfl⟩
  have HRL := Aside0.mk (show rt.length = 32 from by rw [← hrt]; exact hl)
  obtain ⟨N8, hN8⟩ : ∃ z, highI s.num 8 = z := ⟨_, rfl⟩
  have HN8 := Aside0.mk (And.intro (show N8.length = 8 from by rw [← hN8]; exact highI_len _ _) hN8)
  obtain ⟨M4, hM4⟩ : ∃ z, highI s.at' 4 = z := ⟨_, rfl⟩
  have HM4 := Aside0.mk (And.intro (show M4.length = 4 from by rw [← hM4]; exact highI_len _ _) hM4)
  obtain ⟨Z4, hZ4⟩ : ∃ z, highI s.size 4 = z := ⟨_, rfl⟩
  have HZ4 := Aside0.mk (And.intro (show Z4.length = 4 from by rw [← hZ4]; exact highI_len _ _) hZ4)
  rw [hrt] at HCR HPARTS
  rw [hN8] at CH8
  rw [hM4] at CHA
  rw [hZ4] at CHZ
  have e0 := HE.out
  obtain ⟨n, hn⟩ : ∃ z, s.num = z := ⟨_, rfl⟩
  obtain ⟨a, ha⟩ : ∃ z, s.at' = z := ⟨_, rfl⟩
  obtain ⟨z, hz⟩ : ∃ y, s.size = y := ⟨_, rfl⟩
  rw [hn, ha, hz] at HE
  rw [hn] at CH8
  rw [ha] at CHA
  rw [hz] at CHZ
  clear hX hcs hrt hN8 hM4 hZ4 hn ha hz hk hl hB hfs e0
  have HP := Aside0.mk (Hp.start w)
  have hcut : ∀ (g : Nat) (w : World), (Instr.sliceAt 23 (.pointer (some ⟨g, 1, none⟩)) none none none).run Try.prog w = .ok (.slice (some ⟨g, 1, none⟩) 32 32) w := fun g w => run_cut_all (P := Try.prog) Try.underlying23 (by kernel_rfl) (by decide) g 1 w
  go_enter Try.func10, Try.ntmps10
  go_wp2_with (first | ((with_reducible refine gate_dst (N := 1) rfl ?_); refine ev_box rfl 25 (.tmp 0) rfl (cs.toArray) rfl ?_; intro g_s wa hge hg hb; have HPn := Aside0.mk (HP.out.newB hb hg hge); clear HP; have HP := HPn; clear HPn; clear hge hg hb) | ((with_reducible refine gate_dst (N := 6) rfl ?_); refine ev_load rfl 25 (.tmp 1) rfl g_s rfl (HP.out.blk 0 rfl) Try.underlying25 rfl (by rw [List.size_toArray, HLC.out]; kernel_rfl) ?_))
  refine (CK.out _).mono ?_; rintro e w1 ⟨rfl, hb⟩; have HPn := Aside0.mk (HP.out.call hb); clear HP; have HP := HPn; clear HPn; clear hb
  have hc0 : (w1.alloc (.cells #[.int .u8 82, .int .u8 67] 5)).cell? ⟨g_s, 0, none⟩ = some (.int .i64 n) := cell_in ((HP.out.alloc (.cells #[.int .u8 82, .int .u8 67] 5 (0, 0))).blk 1 rfl) 0 HE.out.1
  go_wp2_with fail
  clear hc0
  have HPn := Aside0.mk (show Hp w (w1.alloc (.cells #[.int .u8 82, .int .u8 67] 5)) _ from HP.out.lit 5 (d := Kd.int .u8) (xs := [82, 67]) (inner := [82, 67].map (Value.int .u8)) (reps_ints .u8 _ _ [82, 67]) (by decide))
  clear HP
  obtain ⟨w2, hw2⟩ : ∃ z, w1.alloc (.cells #[.int .u8 82, .int .u8 67] 5) = z := ⟨_, rfl⟩
  obtain ⟨A_b, hA⟩ : ∃ z : Option Addr, some ⟨w1.heap.size, 0, none⟩ = z := ⟨_, rfl⟩
  rw [hw2, hA] at HPn
  rw [hw2, hA]
  clear hw2 hA
  have HP := Aside0.mk (show Hp w w2 (.row (Kd.int .u8) 5 w.heap.size (.slice A_b 2 2) [82, 67] :: _) from HPn.out)
  clear HPn
  refine (CH8.out _).mono ?_; rintro e w3 ⟨v8, rfl, ho, hb⟩
  have HPn := Aside0.mk (HP.out.newR hb ho)
  clear HP ho hb
  have HP := HPn
  clear HPn
  obtain ⟨A_8, c_8, rfl⟩ := Kd.R_slice (HP.out.row 0 rfl)
  go_wp2_with (first | ((with_reducible refine gate_dst (N := 13) rfl ?_); refine ev_append (plain_int .u8) HP.out 1 rfl (.tmp 9) (.tmp 12) 26 5 (.int .u8 0) 1 rfl Try.underlying26 info5 rfl (by decide) (by decide) (.slice A_b 2 2) ([82, 67] : List Int) N8 A_8 N8.length c_8 rfl rfl rfl (Kd.R_reads' (HP.out.row 0 rfl)).2.2 (by rw [HN8.out.1]; decide) ?_; intro v_n wqL1 hpn; clear HP; have HP := Aside0.mk hpn; clear hpn; obtain ⟨A_L1, c_L1, rfl⟩ := Kd.R_slice (HP.out.row 1 rfl); obtain ⟨L1, hL1⟩ : ∃ z, (([82, 67] : List Int) ++ N8 : List Int) = z := ⟨_, rfl⟩; rw [hL1] at HP ⊢; have HL1 := Aside0.mk hL1; clear hL1) | ((with_reducible refine gate_dst (N := 17) rfl ?_); refine ev_append (plain_int .u8) HP.out 1 rfl (.tmp 14) (.tmp 16) 26 5 (.int .u8 0) 1 rfl Try.underlying26 info5 rfl (by decide) (by decide) (.slice A_L1 L1.length c_L1) L1 rt (some ⟨g_s, 1, none⟩) 32 32 rfl rfl rfl (HCR.out _ g_s (HP.out.blk 2 rfl)) (by have h1 : L1.length = 10 := (by rw [← HL1.out, List.length_append, HN8.out.1]; rfl); rw [h1]; decide) ?_; intro v_n wqL2 hpn; clear HP; have HP := Aside0.mk hpn; clear hpn; obtain ⟨A_L2, c_L2, rfl⟩ := Kd.R_slice (HP.out.row 1 rfl); obtain ⟨L2, hL2⟩ : ∃ z, (L1 ++ rt : List Int) = z := ⟨_, rfl⟩; rw [hL2] at HP ⊢; have HL2 := Aside0.mk hL2; clear hL2; have hc33 := cell_in (HP.out.blk 2 rfl) 33 HE.out.2.1))
  clear hc33
  refine (CHA.out _).mono ?_; rintro e w4 ⟨v4, rfl, ho, hb⟩
  have HPn := Aside0.mk (HP.out.newR hb ho)
  clear HP ho hb
  have HP := HPn
  clear HPn
  obtain ⟨A_4, c_4, rfl⟩ := Kd.R_slice (HP.out.row 0 rfl)
  have HL2l := Aside0.mk (show L2.length = 42 from by rw [← HL2.out, ← HL1.out, List.length_append, List.length_append, HN8.out.1, HRL.out]; rfl)
  go_wp2_with (first | ((with_reducible refine gate_dst (N := 22) rfl ?_); refine ev_append (plain_int .u8) HP.out 2 rfl (.tmp 18) (.tmp 21) 26 5 (.int .u8 0) 1 rfl Try.underlying26 info5 rfl (by decide) (by decide) (.slice A_L2 L2.length c_L2) L2 M4 A_4 M4.length c_4 rfl rfl rfl (Kd.R_reads' (HP.out.row 0 rfl)).2.2 (by rw [HL2l.out, HM4.out.1]; decide) ?_; intro v_n wqL3 hpn; clear HP; have HP := Aside0.mk hpn; clear hpn; obtain ⟨A_L3, c_L3, rfl⟩ := Kd.R_slice (HP.out.row 2 rfl); obtain ⟨L3, hL3⟩ : ∃ z, (L2 ++ M4 : List Int) = z := ⟨_, rfl⟩; rw [hL3] at HP ⊢; have HL3 := Aside0.mk hL3; clear hL3; have hc34 := cell_in (HP.out.blk 3 rfl) 34 HE.out.2.2))
  clear hc34
  refine (CHZ.out _).mono ?_; rintro e w5 ⟨vz, rfl, ho, hb⟩
  have HPn := Aside0.mk (HP.out.newR hb ho)
  clear HP ho hb
  have HP := HPn
  clear HPn
  obtain ⟨A_z, c_z, rfl⟩ := Kd.R_slice (HP.out.row 0 rfl)
  have HL3l := Aside0.mk (show L3.length = 46 from by rw [← HL3.out, List.length_append, HL2l.out, HM4.out.1])
  go_wp2_with (first | ((with_reducible refine gate_dst (N := 27) rfl ?_); refine ev_append (plain_int .u8) HP.out 3 rfl (.tmp 23) (.tmp 26) 26 5 (.int .u8 0) 1 rfl Try.underlying26 info5 rfl (by decide) (by decide) (.slice A_L3 L3.length c_L3) L3 Z4 A_z Z4.length c_z rfl rfl rfl (Kd.R_reads' (HP.out.row 0 rfl)).2.2 (by rw [HL3l.out, HZ4.out.1]; decide) ?_; intro v_n wqL4 hpn; clear HP; have HP := Aside0.mk hpn; clear hpn; obtain ⟨A_L4, c_L4, rfl⟩ := Kd.R_slice (HP.out.row 3 rfl); obtain ⟨L4, hL4⟩ : ∃ z, (L3 ++ Z4 : List Int) = z := ⟨_, rfl⟩; rw [hL4] at HP ⊢; have HL4 := Aside0.mk hL4; clear hL4))
  have HL4e := Aside0.mk (HPARTS.out HN8.out.2 HM4.out.2 HZ4.out.2 HL1.out HL2.out HL3.out HL4.out)
  have HL4l := Aside0.mk (show L4.length = 50 from by rw [HL4e.out]; exact HFL.out)
  refine (c_rsum A_L4 c_L4 L4 _ (Kd.R_reads' (HP.out.row 3 rfl)).2.2 (Kd.R_reads' (HP.out.row 3 rfl)).2.1 (by rw [HL4l.out]; decide) (by rw [HL4e.out]; exact HFB.out)).mono ?_; rintro e w6 ⟨rfl, hb⟩; have HPn := Aside0.mk (HP.out.call hb); clear HP; have HP := HPn; clear HPn; clear hb
  have HS := Aside0.mk (sha_lenU L4)
  have HXE := Aside0.mk (show X = L4 ++ (sha L4).take 14 from by rw [HPS.out, ← HL4e.out])
  obtain ⟨sh, hsh⟩ : ∃ z, sha L4 = z := ⟨_, rfl⟩
  rw [hsh] at HS HXE
  rw [hsh]
  clear hsh
  go_wp2_with (first | ((with_reducible refine gate_dst (N := 5) rfl ?_); refine ev_alloc rfl 23 rfl (.agg (u8s z32).toArray) (by kernel_rfl) ?_; intro g_i w7 hge hg hb; have HPn := Aside0.mk (HP.out.newB hb hg hge); clear HP; have HP := HPn; clear HPn; clear hge hg hb; have hcu := (fun w => run_cut_to (P := Try.prog) Try.underlying23 (by kernel_rfl) (by decide) g_i 0 14 (by decide) (by decide) w)) | ((with_reducible refine gate_store (t := 23) (p := 5) rfl ?_); refine ev_store rfl 23 (.tmp 5) (.tmp 29) rfl rfl _ rfl (cells := (u8s sh).toArray) rfl (HP.out.blk 0 rfl) (by rw [List.size_toArray, u8s_len, HS.out]; kernel_rfl) (show (u8s z32).toArray.size = (u8s sh).toArray.size from by rw [List.size_toArray, List.size_toArray, u8s_len, u8s_len, z32_len, HS.out]) (one_u8 _) ?_; intro w8 hg hgr; have HPn := Aside0.mk (HP.out.setB 0 rfl hgr hg); clear HP; have HP := HPn; clear HPn; clear hg hgr) | ((with_reducible refine gate_dst (N := 32) rfl ?_); refine ev_append (plain_int .u8) HP.out 4 rfl (.tmp 30) (.tmp 31) 26 5 (.int .u8 0) 1 rfl Try.underlying26 info5 rfl (by decide) (by decide) (.slice A_L4 L4.length c_L4) L4 (sh.take 14) (some ⟨g_i, 0, none⟩) 14 32 rfl rfl rfl (C_take14 (HP.out.blk 0 rfl) HS.out) (by rw [HL4l.out]; decide) ?_; intro v_n wqL5 hpn; clear HP; have HP := Aside0.mk hpn; clear hpn; obtain ⟨A_L5, c_L5, rfl⟩ := Kd.R_slice (HP.out.row 4 rfl); obtain ⟨L5, hL5⟩ : ∃ z, (L4 ++ (sh.take 14) : List Int) = z := ⟨_, rfl⟩; rw [hL5] at HP ⊢; have HL5 := Aside0.mk hL5; clear hL5))
  refine bodyPost_ret (results_two_tmps rfl _ _ rfl rfl) rfl ?_
  exact ⟨_, rfl, by rw [HXE.out, HL5.out]; exact HP.out.row 4 rfl, HP.out.below⟩
set_option maxHeartbeats 8000000 in
set_option maxRecDepth 100000 in
theorem c_rspack0 (s : SP) (hl : s.root.length = 32) (hk : chk s = false) (w : World) :
    Calls Try.prog 10 #[.agg (c25 s).toArray] w fun e w' => e = .returned (.tuple #[.slice none 0 0, .int .i64 2]) ∧ Below w.heap.size w w' := by
  have CK := Aside0.mk (fun w => c_rcheck s hl w)
  rw [show chkE s = 2 from by unfold chkE; rw [hk]; rfl] at CK
  have HLC := Aside0.mk (c25_len s hl)
  obtain ⟨cs, hcs⟩ : ∃ z, c25 s = z := ⟨_, rfl⟩
  rw [hcs] at CK HLC ⊢
  clear hcs hk hl
  have HP := Aside0.mk (Hp.start w)
  go_enter Try.func10, Try.ntmps10
  go_wp2_with (first | ((with_reducible refine gate_dst (N := 1) rfl ?_); refine ev_box rfl 25 (.tmp 0) rfl (cs.toArray) rfl ?_; intro g_s wa hge hg hb; have HPn := Aside0.mk (HP.out.newB hb hg hge); clear HP; have HP := HPn; clear HPn; clear hge hg hb) | ((with_reducible refine gate_dst (N := 6) rfl ?_); refine ev_load rfl 25 (.tmp 1) rfl g_s rfl (HP.out.blk 0 rfl) Try.underlying25 rfl (by rw [List.size_toArray, HLC.out]; kernel_rfl) ?_))
  refine (CK.out _).mono ?_; rintro e w1 ⟨rfl, hb⟩; have HPn := Aside0.mk (HP.out.call hb); clear HP; have HP := HPn; clear HPn; clear hb
  go_wp2_with fail
  refine bodyPost_ret (results_two_tmps rfl _ _ rfl rfl) rfl ?_
  exact ⟨rfl, HP.out.below⟩
end Go.Proofs.Ytgflghnbpbiakaa.Su
namespace Go.Proofs.Ytgflghnbpbiakaa.Su
open Go.Proofs.Ytgflghnbpbiakaa.H hiding C_ints cellL cellN ev_copy ev_store_mid frozC i64k run_cut_all run_cut_arr run_cut_to setL set_self
open Go.RowKit Go.Proofs.Ytgflghnbpbiakaa.XH Go.Proofs.YtgflghnbpbiakaaW.PrintWords Go.Proofs.YtgflghnbpbiakaaW.PrintLast Go.Proofs.YtgflghnbpbiakaaW.PrintMore Go.Proofs.YtgflghnbpbiakaaXe Go.Proofs.YtgflghnbpbiakaaXs
set_option linter.unusedVariables false
set_option linter.unusedSimpArgs false
attribute [local go_sem ↓] Go.wp_at_zero Go.wp_at_succ
attribute [local go_sem] valUpon
attribute [local go_sem ↓ high] bn23 bn25
attribute [local go_sem high] BN25.z BN25.num BN25.two BN25.three
def rootJ (m : List Int) (j : Nat) : List Int := m.take j ++ List.replicate (32 - j) 0
theorem rootJ_len (m : List Int) (h : m.length = 32) (j : Nat) (hj : j ≤ 32) : (rootJ m j).length = 32 := by simp [rootJ, h]; omega
theorem rootJ_0 (m : List Int) : rootJ m 0 = z32 := by simp [rootJ, z32]
theorem rootJ_32 (m : List Int) (h : m.length = 32) : rootJ m 32 = m := by simp [rootJ, List.take_of_length_le (Nat.le_of_eq h)]
theorem rootJ_set (m : List Int) (h : m.length = 32) (j : Nat) (hj : j < 32) : (rootJ m j).set j (rd m (j : Int)) = rootJ m (j + 1) := by
  unfold rootJ
  rw [take_num m j (by omega), List.set_append_right _ _ (by rw [List.length_take]; omega), List.length_take, Nat.min_eq_left (by omega), Nat.sub_self]
  rw [show 32 - j = (32 - (j + 1)) + 1 by omega, List.replicate_succ, List.set_cons_zero]
  simp
theorem c25_set (n a z : Int) (m : List Int) (h : m.length = 32) (j : Nat) (hj : j < 32) : (c25 ⟨n, rootJ m j, a, z⟩).toArray.setIfInBounds (1 + j) (.int .u8 (rd m (j : Int))) = (c25 ⟨n, rootJ m (j + 1), a, z⟩).toArray := by
  apply Array.ext'
  rw [Array.toList_setIfInBounds]
  show List.set (c25 ⟨n, rootJ m j, a, z⟩) (1 + j) _ = c25 ⟨n, rootJ m (j + 1), a, z⟩
  rw [Nat.add_comm 1 j, c25, c25, List.set_cons_succ, List.set_append_left _ _ (by simp [u8s, rootJ_len m h j (by omega)]; omega)]
  show Value.int .i64 n :: (List.set (u8s (rootJ m j)) j (.int .u8 (rd m (j : Int))) ++ _) = _
  rw [show List.set (u8s (rootJ m j)) j (.int .u8 (rd m (j : Int))) = u8s ((rootJ m j).set j (rd m (j : Int))) from by simp [u8s, List.map_set], rootJ_set m h j hj]
theorem c25_cell (n a z : Int) (r : List Int) (h : r.length = 32) (j : Nat) (hj : j < 32) : ∃ x, (c25 ⟨n, r, a, z⟩)[1 + j]? = some (.int .u8 x) := by
  refine ⟨rd r (j : Int), ?_⟩
  rw [Nat.add_comm 1 j, c25, List.getElem?_cons_succ, List.getElem?_append_left (by simp [u8s, h]; omega)]
  simp [u8s, Go.Proofs.YtgflghnbpbiakaaW.PrintWords.rd, List.getD_eq_getElem?_getD, h, hj, List.getElem?_eq_getElem (show j < r.length by omega)]
theorem mid_rd (b : List Int) (hl : b.length = 64) (j : Nat) (hj : j < 32) : rd ((b.take 42).drop 10) (j : Int) = rd b ((10 + j : Nat) : Int) := by
  simp only [Go.Proofs.YtgflghnbpbiakaaW.PrintWords.rd, List.getD_eq_getElem?_getD, Int.toNat_natCast, List.getElem?_drop, List.getElem?_take]
  rw [if_pos (by omega)]
set_option maxHeartbeats 8000000 in
set_option maxRecDepth 100000 in
theorem c_rsunpack (A : Option Addr) (c : Nat) (b : List Int) (w : World) (hr : Kd.C (Kd.int .u8) w A b.length b) (hc : b.length ≤ c) (hm : b.length ≤ 1000000) (hB : Bytes b) :
    Calls Try.prog 17 #[.slice A b.length c] w fun e w' => e = .returned (.tuple #[.agg (c25 (unpS b)).toArray, .bool (isS b)]) ∧ Below w.heap.size w w' := by
  have HR := Aside0.mk hr
  have HC := Aside0.mk hc
  have HBY := Aside0.mk hB
  have HIP := Aside0.mk (isS_iff b)
  have HF := Aside0.mk (fun (h : isS b = false) => (show unpS b = s0 from by unfold unpS; rw [h]; rfl))
  have HT := Aside0.mk (fun (h : isS b = true) => (show unpS b = readS b from by unfold unpS; rw [if_pos h]))
  have HP := Aside0.mk (Hp.start w)
  by_cases a1 : b.length = 64
  rotate_left
  · have d1 : ((b.length : Int) != 64) = true := bne_iff_ne.2 (by omega)
    have HN := Aside0.mk (show isS b = false from by rw [Bool.eq_false_iff]; intro h; exact a1 (HIP.out.1 h).1)
    clear a1 hr hc hm hB
    go_enter Try.func17, Try.ntmps17
    go_wp2_with (first | ((with_reducible refine gate_dst (N := 2) rfl ?_); refine ev_alloc rfl 25 rfl (.agg (c25 s0).toArray) (by kernel_rfl) ?_; intro g_o wn1 hge hg hb; have HPn := Aside0.mk (HP.out.newB hb hg hge); clear HP; have HP := HPn; clear HPn; clear hge hg hb) | ((with_reducible refine gate_store (t := 25) (p := 2) rfl ?_); refine ev_store rfl 25 (.tmp 2) (.tmp 17) rfl rfl _ rfl (cells := (c25 s0).toArray) rfl (HP.out.blk 0 rfl) (by rw [List.size_toArray, c25_len s0 rfl]; kernel_rfl) (by rfl) (c25_one s0) ?_; intro wz hg hgr; have HPn := Aside0.mk (HP.out.setB 0 rfl hgr hg); clear HP; have HP := HPn; clear HPn; clear hg hgr))
    refine bodyPost_ret (resCT rfl _ _ rfl (HP.out.blk 0 rfl) Try.underlying25 rfl (by rw [List.size_toArray, c25_len s0 rfl]; kernel_rfl) rfl) rfl ?_
    exact ⟨by rw [HF.out HN.out, HN.out]; rfl, HP.out.below⟩
  have d1 : ((b.length : Int) != 64) = false := bne_eq_false_iff_eq.2 (by omega)
  have HL := Aside0.mk a1
  obtain ⟨bA, oA, rfl⟩ := C_addr HR.out (by omega) rfl
  have HX := Aside0.mk (fun (w' : World) (hb : Below w.heap.size w w') => (show w'.cell? ⟨bA, oA + 2, none⟩ = some (.int .u8 (rd b 2)) from cellsN (Kd.C_below HR.out hb) 2 (by omega)))
  obtain ⟨k2, hk2⟩ : ∃ z, rd b 2 = z := ⟨_, rfl⟩
  rw [hk2] at HX HIP
  have q20 : (2 : Int) < (b.length : Int) := by omega
  have q21 : 2 < b.length := by omega
  by_cases a2 : k2 = 0
  rotate_left
  · have d2 : (k2 != 0) = true := bne_iff_ne.2 a2
    have HN := Aside0.mk (show isS b = false from by rw [Bool.eq_false_iff]; intro h; exact a2 (HIP.out.1 h).2.1)
    clear a1 a2 hr hc hm hB hk2
    go_enter Try.func17, Try.ntmps17
    go_wp2_with (first | ((with_reducible refine gate_dst (N := 2) rfl ?_); refine ev_alloc rfl 25 rfl (.agg (c25 s0).toArray) (by kernel_rfl) ?_; intro g_o wn1 hge hg hb; have HPn := Aside0.mk (HP.out.newB hb hg hge); clear HP; have HP := HPn; clear HPn; clear hge hg hb; have hx2 := HX.out _ HP.out.below) | ((with_reducible refine gate_store (t := 25) (p := 2) rfl ?_); refine ev_store rfl 25 (.tmp 2) (.tmp 17) rfl rfl _ rfl (cells := (c25 s0).toArray) rfl (HP.out.blk 0 rfl) (by rw [List.size_toArray, c25_len s0 rfl]; kernel_rfl) (by rfl) (c25_one s0) ?_; intro wz hg hgr; have HPn := Aside0.mk (HP.out.setB 0 rfl hgr hg); clear HP; have HP := HPn; clear HPn; clear hg hgr))
    refine bodyPost_ret (resCT rfl _ _ rfl (HP.out.blk 0 rfl) Try.underlying25 rfl (by rw [List.size_toArray, c25_len s0 rfl]; kernel_rfl) rfl) rfl ?_
    exact ⟨by rw [HF.out HN.out, HN.out]; rfl, HP.out.below⟩
  have d2 : (k2 != 0) = false := bne_eq_false_iff_eq.2 a2
  have H2 := Aside0.mk a2
  obtain ⟨A8, m8, hm8, hl8, hlc8, hrun8, hC8⟩ := D.mid8 (some ⟨bA, oA, none⟩) c b 2 10 (by decide) (by omega) hc 2 10 rfl rfl
  obtain ⟨A4, m4, hm4, hl4, hlc4, hrun4, hC4⟩ := D.mid8 (some ⟨bA, oA, none⟩) c b 42 46 (by decide) (by omega) hc 42 46 rfl rfl
  obtain ⟨A5, m5, hm5, hl5, hlc5, hrun5, hC5⟩ := D.mid8 (some ⟨bA, oA, none⟩) c b 46 50 (by decide) (by omega) hc 46 50 rfl rfl
  have hz8 : rd m8 0 = 0 := by
    have e : rd m8 0 = rd b 2 := by rw [← hm8]; simp [Go.Proofs.YtgflghnbpbiakaaW.PrintWords.rd, List.getD_eq_getElem?_getD, List.getElem?_drop, List.getElem?_take]
    rw [e, hk2, a2]
  have CN8 := Aside0.mk (fun (w' : World) (hb : Below w.heap.size w w') => retconref13_number.calls _ A8 (c - 2) m8 (numI m8) w' (hC8 w' (Kd.C_below hr hb)) hlc8 (rnum_f m8 (by rw [← hm8]; exact bytes_sub hB _ _) (by omega) (fun _ => hz8)))
  have CN4 := Aside0.mk (fun (w' : World) (hb : Below w.heap.size w w') => retconref13_number.calls _ A4 (c - 42) m4 (numI m4) w' (hC4 w' (Kd.C_below hr hb)) hlc4 (rnum_f m4 (by rw [← hm4]; exact bytes_sub hB _ _) (by omega) (fun h => by omega)))
  have CN5 := Aside0.mk (fun (w' : World) (hb : Below w.heap.size w w') => retconref13_number.calls _ A5 (c - 46) m5 (numI m5) w' (hC5 w' (Kd.C_below hr hb)) hlc5 (rnum_f m5 (by rw [← hm5]; exact bytes_sub hB _ _) (by omega) (fun h => by omega)))
  have HRD := Aside0.mk (show readS b = ⟨numI m8, (b.take 42).drop 10, numI m4, numI m5⟩ from by unfold readS; rw [hm8, hm4, hm5])
  have HML := Aside0.mk (show ((b.take 42).drop 10).length = 32 by simp [List.length_drop, List.length_take, a1])
  have HMR := Aside0.mk (mid_rd b a1)
  have HMB := Aside0.mk (bytes_sub hB 42 10)
  obtain ⟨m, hm_⟩ : ∃ z, (b.take 42).drop 10 = z := ⟨_, rfl⟩
  rw [hm_] at HRD HML HMR HMB
  obtain ⟨n, hn⟩ : ∃ z, numI m8 = z := ⟨_, rfl⟩
  obtain ⟨a, ha⟩ : ∃ z, numI m4 = z := ⟨_, rfl⟩
  obtain ⟨z, hz⟩ : ∃ y, numI m5 = y := ⟨_, rfl⟩
  rw [hn] at CN8 HRD
  rw [ha] at CN4 HRD
  rw [hz] at CN5 HRD
  have HIQ := Aside0.mk (show isS b = true ↔ chk (readS b) = true ∧ packS (readS b) = b from ⟨fun h => (HIP.out.1 h).2.2, fun h => HIP.out.2 ⟨a1, a2, h⟩⟩)
  have CP8 := Aside0.mk (fun (w' : World) (h : chk (readS b) = true) => c_rspack (readS b) (readS_root b a1) (bytes_sub hB 42 10) h w')
  have CP0 := Aside0.mk (fun (w' : World) (h : chk (readS b) = false) => c_rspack0 (readS b) (readS_root b a1) h w')
  rw [HRD.out] at CP8 CP0 HIQ HT
  have HPX := Aside0.mk (show Bytes (packS ⟨n, m, a, z⟩) from packS_bytes _ (by exact HMB.out))
  clear HIP hr hc hm hB hk2 a1 a2 hm8 hl8 hlc8 hC8 hm4 hl4 hlc4 hC4 hm5 hl5 hlc5 hC5 hz8 hm_ hn ha hz
  go_enter Try.func17, Try.ntmps17
  go_wp2_with (first | ((with_reducible refine gate_dst (N := 2) rfl ?_); refine ev_alloc rfl 25 rfl (.agg (c25 s0).toArray) (by kernel_rfl) ?_; intro g_o wn1 hge hg hb; have HPn := Aside0.mk (HP.out.newB hb hg hge); clear HP; have HP := HPn; clear HPn; clear hge hg hb; have hx2 := HX.out _ HP.out.below))
  clear hx2
  refine held_named (S := (fun _ => True)) (by kernel_rfl) (fun wd0 hwd0 => ?_)
  have HPn := Aside0.mk (HP.out.drewN 1)
  rw [← World.drew_is_drewN, hwd0] at HPn
  clear HP hwd0
  have HP := HPn
  clear HPn
  refine ⟨by (try dsimp only); (try trivial), fun hHeld => ?_⟩
  refine wpAnyH_take (i := 0) (oi := ({ dst := (some 18), op := (Op.move (Operand.tmp 0)), type := 26, pos := "ref.go:54", after := #[], guard := none } : Oper)) (v := ?_) rfl (by kernel_rfl) (by kernel_rfl) (by kernel_rfl) (fun _ _ _ h => h) (Or.inl ⟨by rfl, ?_⟩) hHeld ?_
  rotate_left
  · intro w_ hSw; (try dsimp only at hSw); go_simp; try (with_reducible rfl)
  try simp only [Act.put, List.setIfInBounds_toArray, List.set_cons_zero, List.set_cons_succ]
  refine wpAnyH_take (i := 1) (oi := ({ dst := (some 19), op := (Op.slice 26 (Operand.tmp 18) (some (Operand.const (Value.int IntKind.i64 2))) (some (Operand.const (Value.int IntKind.i64 10))) none), type := 26, pos := "ref.go:54", after := #[{ on := 0, ground := Ground.data }], guard := none } : Oper)) (v := ?_) rfl (by kernel_rfl) (by kernel_rfl) (by kernel_rfl) (fun _ _ _ h => h) (Or.inl ⟨by rfl, ?_⟩) hHeld ?_
  rotate_left
  · intro w_ hSw; (try dsimp only at hSw); go_simp; try (with_reducible rfl)
  try simp only [Act.put, List.setIfInBounds_toArray, List.set_cons_zero, List.set_cons_succ]
  refine wpAnyH_take (i := 3) (oi := ({ dst := (some 21), op := (Op.move (Operand.tmp 0)), type := 26, pos := "ref.go:54", after := #[], guard := none } : Oper)) (v := ?_) rfl (by kernel_rfl) (by kernel_rfl) (by kernel_rfl) (fun _ _ _ h => h) (Or.inl ⟨by rfl, ?_⟩) hHeld ?_
  rotate_left
  · intro w_ hSw; (try dsimp only at hSw); go_simp; try (with_reducible rfl)
  try simp only [Act.put, List.setIfInBounds_toArray, List.set_cons_zero, List.set_cons_succ]
  refine wpAnyH_take (i := 4) (oi := ({ dst := (some 22), op := (Op.slice 26 (Operand.tmp 21) (some (Operand.const (Value.int IntKind.i64 42))) (some (Operand.const (Value.int IntKind.i64 46))) none), type := 26, pos := "ref.go:54", after := #[{ on := 3, ground := Ground.data }], guard := none } : Oper)) (v := ?_) rfl (by kernel_rfl) (by kernel_rfl) (by kernel_rfl) (fun _ _ _ h => h) (Or.inl ⟨by rfl, ?_⟩) hHeld ?_
  rotate_left
  · intro w_ hSw; (try dsimp only at hSw); go_simp; try (with_reducible rfl)
  try simp only [Act.put, List.setIfInBounds_toArray, List.set_cons_zero, List.set_cons_succ]
  refine wpAnyH_take (i := 6) (oi := ({ dst := (some 24), op := (Op.move (Operand.tmp 0)), type := 26, pos := "ref.go:54", after := #[], guard := none } : Oper)) (v := ?_) rfl (by kernel_rfl) (by kernel_rfl) (by kernel_rfl) (fun _ _ _ h => h) (Or.inl ⟨by rfl, ?_⟩) hHeld ?_
  rotate_left
  · intro w_ hSw; (try dsimp only at hSw); go_simp; try (with_reducible rfl)
  try simp only [Act.put, List.setIfInBounds_toArray, List.set_cons_zero, List.set_cons_succ]
  refine wpAnyH_take (i := 7) (oi := ({ dst := (some 25), op := (Op.slice 26 (Operand.tmp 24) (some (Operand.const (Value.int IntKind.i64 46))) (some (Operand.const (Value.int IntKind.i64 50))) none), type := 26, pos := "ref.go:54", after := #[{ on := 6, ground := Ground.data }], guard := none } : Oper)) (v := ?_) rfl (by kernel_rfl) (by kernel_rfl) (by kernel_rfl) (fun _ _ _ h => h) (Or.inl ⟨by rfl, ?_⟩) hHeld ?_
  rotate_left
  · intro w_ hSw; (try dsimp only at hSw); go_simp; try (with_reducible rfl)
  try simp only [Act.put, List.setIfInBounds_toArray, List.set_cons_zero, List.set_cons_succ]
  refine wpAnyH_ready (rs := [2, 10]) (by kernel_rfl) (by simp) ?_
  refine AllReadyH.cons (o := ({ dst := (some 20), op := (Op.call { callee := (Callee.value (Operand.func 45)), args := #[(Operand.tmp 19)], argTypes := #[26] }), type := 3, pos := "ref.go:54", after := #[{ on := 1, ground := Ground.data }], guard := none } : Oper)) rfl (fun K hK => ?_) ?_
  ·
    go_simp
    refine (CN8.out _ HP.out.below).mono ?_; rintro e wa ⟨rfl, n_, rfl⟩; have HPn := Aside0.mk (HP.out.drewN n_); clear HP; have HP := HPn; clear HPn; (try simp only [World.drewN_drewN] at HP)
    go_wp2_with fail
    clear hHeld
    refine hK.out _ _ ?_ (fun hHeld => ?_)
    · (try dsimp only); (try trivial)
    clear hK K
    try simp only [Act.put, List.setIfInBounds_toArray, List.set_cons_zero, List.set_cons_succ]
    refine wpAnyH_ready (rs := [5, 10]) (by kernel_rfl) (by simp) ?_
    refine AllReadyH.cons (o := ({ dst := (some 23), op := (Op.call { callee := (Callee.value (Operand.func 45)), args := #[(Operand.tmp 22)], argTypes := #[26] }), type := 3, pos := "ref.go:54", after := #[{ on := 4, ground := Ground.data }, { on := 2, ground := Ground.chain }], guard := none } : Oper)) rfl (fun K hK => ?_) ?_
    ·
      go_simp
      refine (CN4.out _ HP.out.below).mono ?_; rintro e wb ⟨rfl, n_, rfl⟩; have HPn := Aside0.mk (HP.out.drewN n_); clear HP; have HP := HPn; clear HPn; (try simp only [World.drewN_drewN] at HP)
      go_wp2_with fail
      clear hHeld
      refine hK.out _ _ ?_ (fun hHeld => ?_)
      · (try dsimp only); (try trivial)
      clear hK K
      try simp only [Act.put, List.setIfInBounds_toArray, List.set_cons_zero, List.set_cons_succ]
      refine wpAnyH_ready (rs := [8, 10]) (by kernel_rfl) (by simp) ?_
      refine AllReadyH.cons (o := ({ dst := (some 26), op := (Op.call { callee := (Callee.value (Operand.func 45)), args := #[(Operand.tmp 25)], argTypes := #[26] }), type := 3, pos := "ref.go:54", after := #[{ on := 7, ground := Ground.data }, { on := 5, ground := Ground.chain }], guard := none } : Oper)) rfl (fun K hK => ?_) ?_
      ·
        go_simp
        refine (CN5.out _ HP.out.below).mono ?_; rintro e wc ⟨rfl, n_, rfl⟩; have HPn := Aside0.mk (HP.out.drewN n_); clear HP; have HP := HPn; clear HPn; (try simp only [World.drewN_drewN] at HP)
        go_wp2_with fail
        clear hHeld
        refine hK.out _ _ ?_ (fun hHeld => ?_)
        · (try dsimp only); (try trivial)
        clear hK K
        try simp only [Act.put, List.setIfInBounds_toArray, List.set_cons_zero, List.set_cons_succ]
        refine wpAnyH_take (i := 9) (oi := ({ dst := (some 27), op := (Op.build 25 #[(0, (Operand.tmp 20)), (2, (Operand.tmp 23)), (3, (Operand.tmp 26))]), type := 25, pos := "ref.go:54", after := #[{ on := 2, ground := Ground.data }, { on := 5, ground := Ground.data }, { on := 8, ground := Ground.data }], guard := none } : Oper)) (v := ?_) rfl (by kernel_rfl) (by kernel_rfl) (by kernel_rfl) (fun _ _ _ h => h) (Or.inl ⟨by rfl, ?_⟩) hHeld ?_
        rotate_left
        · intro w_ hSw; (try dsimp only at hSw); go_simp; try (with_reducible rfl)
        try simp only [Act.put, List.setIfInBounds_toArray, List.set_cons_zero, List.set_cons_succ]
        refine wpAnyH_ready (rs := [10]) (by kernel_rfl) (by simp) ?_
        refine AllReadyH.cons (o := ({ dst := (some 4), op := (Op.alloc 25), type := 0, pos := "ref.go:54", after := #[], guard := none } : Oper)) rfl (fun K hK => ?_) AllReadyH.nil
        refine st_alloc (by rfl) 25 (by rfl) (.agg (c25 s0).toArray) (by kernel_rfl) ?_; intro g_4 w4 hge hg hb; have HPn := Aside0.mk (HP.out.newB hb hg hge); clear HP; have HP := HPn; clear HPn; clear hge hg hb
        clear hHeld
        refine hK.out _ _ ?_ (fun hHeld => ?_)
        · (try dsimp only); (try trivial)
        clear hK K
        try simp only [Act.put, List.setIfInBounds_toArray, List.set_cons_zero, List.set_cons_succ]
        refine wpAnyH_ready (rs := [11]) (by kernel_rfl) (by simp) ?_
        refine AllReadyH.cons (o := ({ dst := none, op := (Op.store 25 (Operand.tmp 4) (Operand.tmp 27)), type := 0, pos := "ref.go:54", after := #[{ on := 10, ground := Ground.data }, { on := 9, ground := Ground.data }, { on := 8, ground := Ground.chain }, { on := 0, ground := Ground.phase }, { on := 1, ground := Ground.phase }, { on := 2, ground := Ground.phase }, { on := 3, ground := Ground.phase }, { on := 4, ground := Ground.phase }, { on := 5, ground := Ground.phase }, { on := 6, ground := Ground.phase }, { on := 7, ground := Ground.phase }, { on := 8, ground := Ground.phase }, { on := 9, ground := Ground.phase }, { on := 10, ground := Ground.phase }], guard := none } : Oper)) rfl (fun K hK => ?_) AllReadyH.nil
        refine st_store (by rfl) 25 (.tmp 4) (.tmp 27) (by rfl) (by rfl) g_4 (by rfl) (cells := (c25 ⟨n, z32, a, z⟩).toArray) (by rfl) (HP.out.blk 0 rfl) (by rw [List.size_toArray, c25_len _ rfl]; kernel_rfl) (show (c25 s0).toArray.size = (c25 ⟨n, z32, a, z⟩).toArray.size from by rw [List.size_toArray, List.size_toArray, c25_len s0 rfl, c25_len _ rfl]) (c25_one _) ?_; intro w5 hg hgr; have HPn := Aside0.mk (HP.out.setB 0 rfl hgr hg); clear HP; have HP := HPn; clear HPn; clear hg hgr
        clear hHeld
        refine hK.out _ _ ?_ (fun hHeld => ?_)
        · (try dsimp only); (try trivial)
        clear hK K
        try simp only [Act.put, List.setIfInBounds_toArray, List.set_cons_zero, List.set_cons_succ]
        refine wpAnyH_done (by kernel_rfl) ?_ _
        clear hHeld hrun8 hrun4 hrun5 CN8 CN4 CN5
        have HPn := Aside0.mk (show Hp w _ [.blk g_4 (.cells (c25 ⟨n, rootJ m 0, a, z⟩).toArray 25 (0, 0)), .blk g_o (.cells (c25 s0).toArray 25 (0, 0))] from by rw [rootJ_0]; exact HP.out)
        clear HP
        go_wp2_with fail
        go_loopg [5] 32 (fun kq v5 w' => ∃ (j : Nat) (x : Int), v5 = .int .i64 x ∧ Aside0 (x = (j : Int)) ∧ Aside0 (kq + j = 32) ∧ Aside0 (Hp w w' [.blk g_4 (.cells (c25 ⟨n, rootJ m j, a, z⟩).toArray 25 (0, 0)), .blk g_o (.cells (c25 s0).toArray 25 (0, 0))]))
        case atStart => exact ⟨0, 0, rfl, ⟨rfl⟩, ⟨rfl⟩, HPn⟩
        clear HPn
        obtain ⟨j, x, rfl, HXj, HKj, HP⟩ := hrel
        have hx := HXj.out
        by_cases c1 : j < 32
        · have dl : decide (x < 32) = true := decide_eq_true (by omega)
          have ex := i64k (x := x + 1) rfl (by omega)
          obtain ⟨y, hy⟩ : ∃ y, 10 + x = y := ⟨_, rfl⟩
          have ey := i64k hy (by omega)
          have p0 : 0 ≤ y := by omega
          have p1 : y < (b.length : Int) := by have := HL.out; omega
          have p2 : 0 ≤ x := by omega
          have p3 : x < 32 := by omega
          have p4 : y.toNat < b.length := by omega
          have p5 : x.toNat < 32 := by omega
          have hcb := cellsN (Kd.C_below HR.out HP.out.below) y.toNat (by omega)
          rw [show ((y.toNat : Nat) : Int) = y by omega] at hcb
          have hrd := HMR.out j c1
          rw [show ((10 + j : Nat) : Int) = y by omega] at hrd
          obtain ⟨x0, hx0⟩ := c25_cell n a z (rootJ m j) (rootJ_len m HML.out j (by omega)) j c1
          have hcw := cell_in (HP.out.blk 0 rfl) (1 + j) hx0
          have hfw := blk_frozen (HP.out.blk 0 rfl) (1 + j)
          rw [show 1 + j = 1 + x.toNat by omega] at hcw hfw
          have HPn := Aside0.mk (HP.out.setCell 0 rfl (1 + j) (.int .u8 (rd m (j : Int))))
          rw [c25_set n a z m HML.out j c1, hrd] at HPn
          rw [show 1 + j = 1 + x.toNat by omega] at HPn
          have HC1 := Aside0.mk c1
          clear hx c1 hy hrd hx0 HP
          go_wp2
          go_roundg (gk - 1)
          case measure => have := HKj.out; have := HC1.out; omega
          case rel => exact ⟨j + 1, x + 1, rfl, ⟨by have := HXj.out; omega⟩, ⟨by have := HKj.out; have := HC1.out; omega⟩, HPn⟩
        have dl : decide (x < 32) = false := decide_eq_false (by omega)
        obtain rfl : j = 32 := by have := HKj.out; omega
        rw [rootJ_32 m HML.out] at HP
        clear hx c1
        have HSL := Aside0.mk (c25_len ⟨n, m, a, z⟩ HML.out)
        have HS1 := Aside0.mk (c25_one ⟨n, m, a, z⟩)
        obtain ⟨S, hS⟩ : ∃ y : SP, ⟨n, m, a, z⟩ = y := ⟨_, rfl⟩
        rw [hS] at HP HSL HS1 CP8 CP0 HIQ HT HPX
        clear hS
        obtain ⟨X, hX⟩ : ∃ y, packS S = y := ⟨_, rfl⟩
        rw [hX] at CP8 HIQ HPX
        clear hX
        obtain ⟨cS, hcS⟩ : ∃ y, c25 S = y := ⟨_, rfl⟩
        rw [hcS] at HP HSL HS1 CP8 CP0
        have HCS := Aside0.mk hcS
        clear hcS
        go_wp2_with (first | ((with_reducible refine gate_dst (N := 41) rfl ?_); refine ev_load rfl 25 (.tmp 4) rfl g_4 rfl (HP.out.blk 0 rfl) Try.underlying25 rfl (by rw [List.size_toArray, HSL.out]; kernel_rfl) ?_))
        obtain ⟨ks, hks⟩ : ∃ y, chk S = y := ⟨_, rfl⟩
        rw [hks] at CP8 CP0 HIQ
        clear hks
        cases ks
        · have HN := Aside0.mk (show isS b = false from by rw [Bool.eq_false_iff]; intro h; have := (HIQ.out.1 h).1; cases this)
          refine (CP0.out _ rfl).mono ?_; rintro e w6 ⟨rfl, hb⟩; have HPn := Aside0.mk (HP.out.call hb); clear HP; have HP := HPn; clear HPn; clear hb
          go_wp2_with (first | ((with_reducible refine gate_store (t := 25) (p := 2) rfl ?_); refine ev_store rfl 25 (.tmp 2) (.tmp 54) rfl rfl _ rfl (cells := (c25 s0).toArray) rfl (HP.out.blk 1 rfl) (by rw [List.size_toArray, c25_len s0 rfl]; kernel_rfl) (by rfl) (c25_one s0) ?_; intro wz hg hgr; have HPn := Aside0.mk (HP.out.setB 1 rfl hgr hg); clear HP; have HP := HPn; clear HPn; clear hg hgr))
          refine bodyPost_ret (resCT rfl _ _ rfl (HP.out.blk 1 rfl) Try.underlying25 rfl (by rw [List.size_toArray, c25_len s0 rfl]; kernel_rfl) rfl) rfl ?_
          exact ⟨by rw [HF.out HN.out, HN.out]; rfl, HP.out.below⟩
        · refine (CP8.out _ rfl).mono ?_; rintro e w6 ⟨v, rfl, ho, hb⟩
          have HPn := Aside0.mk (HP.out.newR hb ho)
          clear HP ho hb
          have HP := HPn
          clear HPn
          obtain ⟨A6, c6, rfl⟩ := Kd.R_slice (HP.out.row 0 rfl)
          have hcv1 := Kd.C_string (P := Try.prog) (A := A6) (c := c6) Try.underlying26 Try.underlying5 Try.underlying9 (Kd.R_reads' (HP.out.row 0 rfl)).2.2
          have hcv2 := Kd.C_string (P := Try.prog) (A := some ⟨bA, oA, none⟩) (c := c) Try.underlying26 Try.underlying5 Try.underlying9 (Kd.C_below HR.out HP.out.below)
          have hbq := eq_beq X b HPX.out HBY.out
          by_cases e1 : X = b
          · have HN := Aside0.mk (show isS b = true from HIQ.out.2 ⟨rfl, e1⟩)
            rw [decide_eq_true e1] at hbq
            clear e1
            go_wp2_with (first | ((with_reducible refine gate_dst (N := 55) rfl ?_); refine ev_load rfl 25 (.tmp 4) rfl g_4 rfl (HP.out.blk 1 rfl) Try.underlying25 rfl (by rw [List.size_toArray, HSL.out]; kernel_rfl) ?_) | ((with_reducible refine gate_store (t := 25) (p := 2) rfl ?_); refine ev_store rfl 25 (.tmp 2) (.tmp 55) rfl rfl _ rfl (cells := cS.toArray) rfl (HP.out.blk 2 rfl) (by rw [List.size_toArray, HSL.out]; kernel_rfl) (show (c25 s0).toArray.size = cS.toArray.size from by rw [List.size_toArray, List.size_toArray, HSL.out, c25_len s0 rfl]) HS1.out ?_; intro wz hg hgr; have HPn := Aside0.mk (HP.out.setB 2 rfl hgr hg); clear HP; have HP := HPn; clear HPn; clear hg hgr))
            refine bodyPost_ret (resCT rfl _ _ rfl (HP.out.blk 2 rfl) Try.underlying25 rfl (by rw [List.size_toArray, HSL.out]; kernel_rfl) rfl) rfl ?_
            exact ⟨by rw [HT.out HN.out, HN.out, HCS.out]; rfl, HP.out.below⟩
          · have HN := Aside0.mk (show isS b = false from by rw [Bool.eq_false_iff]; intro h; exact e1 (HIQ.out.1 h).2)
            rw [decide_eq_false e1] at hbq
            clear e1
            go_wp2_with (first | ((with_reducible refine gate_store (t := 25) (p := 2) rfl ?_); refine ev_store rfl 25 (.tmp 2) (.tmp 54) rfl rfl _ rfl (cells := (c25 s0).toArray) rfl (HP.out.blk 2 rfl) (by rw [List.size_toArray, c25_len s0 rfl]; kernel_rfl) (by rfl) (c25_one s0) ?_; intro wz hg hgr; have HPn := Aside0.mk (HP.out.setB 2 rfl hgr hg); clear HP; have HP := HPn; clear HPn; clear hg hgr))
            refine bodyPost_ret (resCT rfl _ _ rfl (HP.out.blk 2 rfl) Try.underlying25 rfl (by rw [List.size_toArray, c25_len s0 rfl]; kernel_rfl) rfl) rfl ?_
            exact ⟨by rw [HF.out HN.out, HN.out]; rfl, HP.out.below⟩
      refine AllReadyH.cons (o := ({ dst := (some 4), op := (Op.alloc 25), type := 0, pos := "ref.go:54", after := #[], guard := none } : Oper)) rfl (fun K hK => ?_) AllReadyH.nil
      refine st_alloc (by rfl) 25 (by rfl) (.agg (c25 s0).toArray) (by kernel_rfl) ?_; intro g_4 w4 hge hg hb; have HPn := Aside0.mk (HP.out.newB hb hg hge); clear HP; have HP := HPn; clear HPn; clear hge hg hb
      clear hHeld
      refine hK.out _ _ ?_ (fun hHeld => ?_)
      · (try dsimp only); (try trivial)
      clear hK K
      try simp only [Act.put, List.setIfInBounds_toArray, List.set_cons_zero, List.set_cons_succ]
      refine wpAnyH_ready (rs := [8]) (by kernel_rfl) (by simp) ?_
      refine AllReadyH.cons (o := ({ dst := (some 26), op := (Op.call { callee := (Callee.value (Operand.func 45)), args := #[(Operand.tmp 25)], argTypes := #[26] }), type := 3, pos := "ref.go:54", after := #[{ on := 7, ground := Ground.data }, { on := 5, ground := Ground.chain }], guard := none } : Oper)) rfl (fun K hK => ?_) AllReadyH.nil
      go_simp
      refine (CN5.out _ HP.out.below).mono ?_; rintro e wc ⟨rfl, n_, rfl⟩; have HPn := Aside0.mk (HP.out.drewN n_); clear HP; have HP := HPn; clear HPn; (try simp only [World.drewN_drewN] at HP)
      go_wp2_with fail
      clear hHeld
      refine hK.out _ _ ?_ (fun hHeld => ?_)
      · (try dsimp only); (try trivial)
      clear hK K
      try simp only [Act.put, List.setIfInBounds_toArray, List.set_cons_zero, List.set_cons_succ]
      refine wpAnyH_take (i := 9) (oi := ({ dst := (some 27), op := (Op.build 25 #[(0, (Operand.tmp 20)), (2, (Operand.tmp 23)), (3, (Operand.tmp 26))]), type := 25, pos := "ref.go:54", after := #[{ on := 2, ground := Ground.data }, { on := 5, ground := Ground.data }, { on := 8, ground := Ground.data }], guard := none } : Oper)) (v := ?_) rfl (by kernel_rfl) (by kernel_rfl) (by kernel_rfl) (fun _ _ _ h => h) (Or.inl ⟨by rfl, ?_⟩) hHeld ?_
      rotate_left
      · intro w_ hSw; (try dsimp only at hSw); go_simp; try (with_reducible rfl)
      try simp only [Act.put, List.setIfInBounds_toArray, List.set_cons_zero, List.set_cons_succ]
      refine wpAnyH_ready (rs := [11]) (by kernel_rfl) (by simp) ?_
      refine AllReadyH.cons (o := ({ dst := none, op := (Op.store 25 (Operand.tmp 4) (Operand.tmp 27)), type := 0, pos := "ref.go:54", after := #[{ on := 10, ground := Ground.data }, { on := 9, ground := Ground.data }, { on := 8, ground := Ground.chain }, { on := 0, ground := Ground.phase }, { on := 1, ground := Ground.phase }, { on := 2, ground := Ground.phase }, { on := 3, ground := Ground.phase }, { on := 4, ground := Ground.phase }, { on := 5, ground := Ground.phase }, { on := 6, ground := Ground.phase }, { on := 7, ground := Ground.phase }, { on := 8, ground := Ground.phase }, { on := 9, ground := Ground.phase }, { on := 10, ground := Ground.phase }], guard := none } : Oper)) rfl (fun K hK => ?_) AllReadyH.nil
      refine st_store (by rfl) 25 (.tmp 4) (.tmp 27) (by rfl) (by rfl) g_4 (by rfl) (cells := (c25 ⟨n, z32, a, z⟩).toArray) (by rfl) (HP.out.blk 0 rfl) (by rw [List.size_toArray, c25_len _ rfl]; kernel_rfl) (show (c25 s0).toArray.size = (c25 ⟨n, z32, a, z⟩).toArray.size from by rw [List.size_toArray, List.size_toArray, c25_len s0 rfl, c25_len _ rfl]) (c25_one _) ?_; intro w5 hg hgr; have HPn := Aside0.mk (HP.out.setB 0 rfl hgr hg); clear HP; have HP := HPn; clear HPn; clear hg hgr
      clear hHeld
      refine hK.out _ _ ?_ (fun hHeld => ?_)
      · (try dsimp only); (try trivial)
      clear hK K
      try simp only [Act.put, List.setIfInBounds_toArray, List.set_cons_zero, List.set_cons_succ]
      refine wpAnyH_done (by kernel_rfl) ?_ _
      clear hHeld hrun8 hrun4 hrun5 CN8 CN4 CN5
      have HPn := Aside0.mk (show Hp w _ [.blk g_4 (.cells (c25 ⟨n, rootJ m 0, a, z⟩).toArray 25 (0, 0)), .blk g_o (.cells (c25 s0).toArray 25 (0, 0))] from by rw [rootJ_0]; exact HP.out)
      clear HP
      go_wp2_with fail
      go_loopg [5] 32 (fun kq v5 w' => ∃ (j : Nat) (x : Int), v5 = .int .i64 x ∧ Aside0 (x = (j : Int)) ∧ Aside0 (kq + j = 32) ∧ Aside0 (Hp w w' [.blk g_4 (.cells (c25 ⟨n, rootJ m j, a, z⟩).toArray 25 (0, 0)), .blk g_o (.cells (c25 s0).toArray 25 (0, 0))]))
      case atStart => exact ⟨0, 0, rfl, ⟨rfl⟩, ⟨rfl⟩, HPn⟩
      clear HPn
      obtain ⟨j, x, rfl, HXj, HKj, HP⟩ := hrel
      have hx := HXj.out
      by_cases c1 : j < 32
      · have dl : decide (x < 32) = true := decide_eq_true (by omega)
        have ex := i64k (x := x + 1) rfl (by omega)
        obtain ⟨y, hy⟩ : ∃ y, 10 + x = y := ⟨_, rfl⟩
        have ey := i64k hy (by omega)
        have p0 : 0 ≤ y := by omega
        have p1 : y < (b.length : Int) := by have := HL.out; omega
        have p2 : 0 ≤ x := by omega
        have p3 : x < 32 := by omega
        have p4 : y.toNat < b.length := by omega
        have p5 : x.toNat < 32 := by omega
        have hcb := cellsN (Kd.C_below HR.out HP.out.below) y.toNat (by omega)
        rw [show ((y.toNat : Nat) : Int) = y by omega] at hcb
        have hrd := HMR.out j c1
        rw [show ((10 + j : Nat) : Int) = y by omega] at hrd
        obtain ⟨x0, hx0⟩ := c25_cell n a z (rootJ m j) (rootJ_len m HML.out j (by omega)) j c1
        have hcw := cell_in (HP.out.blk 0 rfl) (1 + j) hx0
        have hfw := blk_frozen (HP.out.blk 0 rfl) (1 + j)
        rw [show 1 + j = 1 + x.toNat by omega] at hcw hfw
        have HPn := Aside0.mk (HP.out.setCell 0 rfl (1 + j) (.int .u8 (rd m (j : Int))))
        rw [c25_set n a z m HML.out j c1, hrd] at HPn
        rw [show 1 + j = 1 + x.toNat by omega] at HPn
        have HC1 := Aside0.mk c1
        clear hx c1 hy hrd hx0 HP
        go_wp2
        go_roundg (gk - 1)
        case measure => have := HKj.out; have := HC1.out; omega
        case rel => exact ⟨j + 1, x + 1, rfl, ⟨by have := HXj.out; omega⟩, ⟨by have := HKj.out; have := HC1.out; omega⟩, HPn⟩
      have dl : decide (x < 32) = false := decide_eq_false (by omega)
      obtain rfl : j = 32 := by have := HKj.out; omega
      rw [rootJ_32 m HML.out] at HP
      clear hx c1
      have HSL := Aside0.mk (c25_len ⟨n, m, a, z⟩ HML.out)
      have HS1 := Aside0.mk (c25_one ⟨n, m, a, z⟩)
      obtain ⟨S, hS⟩ : ∃ y : SP, ⟨n, m, a, z⟩ = y := ⟨_, rfl⟩
      rw [hS] at HP HSL HS1 CP8 CP0 HIQ HT HPX
      clear hS
      obtain ⟨X, hX⟩ : ∃ y, packS S = y := ⟨_, rfl⟩
      rw [hX] at CP8 HIQ HPX
      clear hX
      obtain ⟨cS, hcS⟩ : ∃ y, c25 S = y := ⟨_, rfl⟩
      rw [hcS] at HP HSL HS1 CP8 CP0
      have HCS := Aside0.mk hcS
      clear hcS
      go_wp2_with (first | ((with_reducible refine gate_dst (N := 41) rfl ?_); refine ev_load rfl 25 (.tmp 4) rfl g_4 rfl (HP.out.blk 0 rfl) Try.underlying25 rfl (by rw [List.size_toArray, HSL.out]; kernel_rfl) ?_))
      obtain ⟨ks, hks⟩ : ∃ y, chk S = y := ⟨_, rfl⟩
      rw [hks] at CP8 CP0 HIQ
      clear hks
      cases ks
      · have HN := Aside0.mk (show isS b = false from by rw [Bool.eq_false_iff]; intro h; have := (HIQ.out.1 h).1; cases this)
        refine (CP0.out _ rfl).mono ?_; rintro e w6 ⟨rfl, hb⟩; have HPn := Aside0.mk (HP.out.call hb); clear HP; have HP := HPn; clear HPn; clear hb
        go_wp2_with (first | ((with_reducible refine gate_store (t := 25) (p := 2) rfl ?_); refine ev_store rfl 25 (.tmp 2) (.tmp 54) rfl rfl _ rfl (cells := (c25 s0).toArray) rfl (HP.out.blk 1 rfl) (by rw [List.size_toArray, c25_len s0 rfl]; kernel_rfl) (by rfl) (c25_one s0) ?_; intro wz hg hgr; have HPn := Aside0.mk (HP.out.setB 1 rfl hgr hg); clear HP; have HP := HPn; clear HPn; clear hg hgr))
        refine bodyPost_ret (resCT rfl _ _ rfl (HP.out.blk 1 rfl) Try.underlying25 rfl (by rw [List.size_toArray, c25_len s0 rfl]; kernel_rfl) rfl) rfl ?_
        exact ⟨by rw [HF.out HN.out, HN.out]; rfl, HP.out.below⟩
      · refine (CP8.out _ rfl).mono ?_; rintro e w6 ⟨v, rfl, ho, hb⟩
        have HPn := Aside0.mk (HP.out.newR hb ho)
        clear HP ho hb
        have HP := HPn
        clear HPn
        obtain ⟨A6, c6, rfl⟩ := Kd.R_slice (HP.out.row 0 rfl)
        have hcv1 := Kd.C_string (P := Try.prog) (A := A6) (c := c6) Try.underlying26 Try.underlying5 Try.underlying9 (Kd.R_reads' (HP.out.row 0 rfl)).2.2
        have hcv2 := Kd.C_string (P := Try.prog) (A := some ⟨bA, oA, none⟩) (c := c) Try.underlying26 Try.underlying5 Try.underlying9 (Kd.C_below HR.out HP.out.below)
        have hbq := eq_beq X b HPX.out HBY.out
        by_cases e1 : X = b
        · have HN := Aside0.mk (show isS b = true from HIQ.out.2 ⟨rfl, e1⟩)
          rw [decide_eq_true e1] at hbq
          clear e1
          go_wp2_with (first | ((with_reducible refine gate_dst (N := 55) rfl ?_); refine ev_load rfl 25 (.tmp 4) rfl g_4 rfl (HP.out.blk 1 rfl) Try.underlying25 rfl (by rw [List.size_toArray, HSL.out]; kernel_rfl) ?_) | ((with_reducible refine gate_store (t := 25) (p := 2) rfl ?_); refine ev_store rfl 25 (.tmp 2) (.tmp 55) rfl rfl _ rfl (cells := cS.toArray) rfl (HP.out.blk 2 rfl) (by rw [List.size_toArray, HSL.out]; kernel_rfl) (show (c25 s0).toArray.size = cS.toArray.size from by rw [List.size_toArray, List.size_toArray, HSL.out, c25_len s0 rfl]) HS1.out ?_; intro wz hg hgr; have HPn := Aside0.mk (HP.out.setB 2 rfl hgr hg); clear HP; have HP := HPn; clear HPn; clear hg hgr))
          refine bodyPost_ret (resCT rfl _ _ rfl (HP.out.blk 2 rfl) Try.underlying25 rfl (by rw [List.size_toArray, HSL.out]; kernel_rfl) rfl) rfl ?_
          exact ⟨by rw [HT.out HN.out, HN.out, HCS.out]; rfl, HP.out.below⟩
        · have HN := Aside0.mk (show isS b = false from by rw [Bool.eq_false_iff]; intro h; exact e1 (HIQ.out.1 h).2)
          rw [decide_eq_false e1] at hbq
          clear e1
          go_wp2_with (first | ((with_reducible refine gate_store (t := 25) (p := 2) rfl ?_); refine ev_store rfl 25 (.tmp 2) (.tmp 54) rfl rfl _ rfl (cells := (c25 s0).toArray) rfl (HP.out.blk 2 rfl) (by rw [List.size_toArray, c25_len s0 rfl]; kernel_rfl) (by rfl) (c25_one s0) ?_; intro wz hg hgr; have HPn := Aside0.mk (HP.out.setB 2 rfl hgr hg); clear HP; have HP := HPn; clear HPn; clear hg hgr))
          refine bodyPost_ret (resCT rfl _ _ rfl (HP.out.blk 2 rfl) Try.underlying25 rfl (by rw [List.size_toArray, c25_len s0 rfl]; kernel_rfl) rfl) rfl ?_
          exact ⟨by rw [HF.out HN.out, HN.out]; rfl, HP.out.below⟩
    refine AllReadyH.cons (o := ({ dst := (some 4), op := (Op.alloc 25), type := 0, pos := "ref.go:54", after := #[], guard := none } : Oper)) rfl (fun K hK => ?_) AllReadyH.nil
    refine st_alloc (by rfl) 25 (by rfl) (.agg (c25 s0).toArray) (by kernel_rfl) ?_; intro g_4 w4 hge hg hb; have HPn := Aside0.mk (HP.out.newB hb hg hge); clear HP; have HP := HPn; clear HPn; clear hge hg hb
    clear hHeld
    refine hK.out _ _ ?_ (fun hHeld => ?_)
    · (try dsimp only); (try trivial)
    clear hK K
    try simp only [Act.put, List.setIfInBounds_toArray, List.set_cons_zero, List.set_cons_succ]
    refine wpAnyH_ready (rs := [5]) (by kernel_rfl) (by simp) ?_
    refine AllReadyH.cons (o := ({ dst := (some 23), op := (Op.call { callee := (Callee.value (Operand.func 45)), args := #[(Operand.tmp 22)], argTypes := #[26] }), type := 3, pos := "ref.go:54", after := #[{ on := 4, ground := Ground.data }, { on := 2, ground := Ground.chain }], guard := none } : Oper)) rfl (fun K hK => ?_) AllReadyH.nil
    go_simp
    refine (CN4.out _ HP.out.below).mono ?_; rintro e wb ⟨rfl, n_, rfl⟩; have HPn := Aside0.mk (HP.out.drewN n_); clear HP; have HP := HPn; clear HPn; (try simp only [World.drewN_drewN] at HP)
    go_wp2_with fail
    clear hHeld
    refine hK.out _ _ ?_ (fun hHeld => ?_)
    · (try dsimp only); (try trivial)
    clear hK K
    try simp only [Act.put, List.setIfInBounds_toArray, List.set_cons_zero, List.set_cons_succ]
    refine wpAnyH_ready (rs := [8]) (by kernel_rfl) (by simp) ?_
    refine AllReadyH.cons (o := ({ dst := (some 26), op := (Op.call { callee := (Callee.value (Operand.func 45)), args := #[(Operand.tmp 25)], argTypes := #[26] }), type := 3, pos := "ref.go:54", after := #[{ on := 7, ground := Ground.data }, { on := 5, ground := Ground.chain }], guard := none } : Oper)) rfl (fun K hK => ?_) AllReadyH.nil
    go_simp
    refine (CN5.out _ HP.out.below).mono ?_; rintro e wc ⟨rfl, n_, rfl⟩; have HPn := Aside0.mk (HP.out.drewN n_); clear HP; have HP := HPn; clear HPn; (try simp only [World.drewN_drewN] at HP)
    go_wp2_with fail
    clear hHeld
    refine hK.out _ _ ?_ (fun hHeld => ?_)
    · (try dsimp only); (try trivial)
    clear hK K
    try simp only [Act.put, List.setIfInBounds_toArray, List.set_cons_zero, List.set_cons_succ]
    refine wpAnyH_take (i := 9) (oi := ({ dst := (some 27), op := (Op.build 25 #[(0, (Operand.tmp 20)), (2, (Operand.tmp 23)), (3, (Operand.tmp 26))]), type := 25, pos := "ref.go:54", after := #[{ on := 2, ground := Ground.data }, { on := 5, ground := Ground.data }, { on := 8, ground := Ground.data }], guard := none } : Oper)) (v := ?_) rfl (by kernel_rfl) (by kernel_rfl) (by kernel_rfl) (fun _ _ _ h => h) (Or.inl ⟨by rfl, ?_⟩) hHeld ?_
    rotate_left
    · intro w_ hSw; (try dsimp only at hSw); go_simp; try (with_reducible rfl)
    try simp only [Act.put, List.setIfInBounds_toArray, List.set_cons_zero, List.set_cons_succ]
    refine wpAnyH_ready (rs := [11]) (by kernel_rfl) (by simp) ?_
    refine AllReadyH.cons (o := ({ dst := none, op := (Op.store 25 (Operand.tmp 4) (Operand.tmp 27)), type := 0, pos := "ref.go:54", after := #[{ on := 10, ground := Ground.data }, { on := 9, ground := Ground.data }, { on := 8, ground := Ground.chain }, { on := 0, ground := Ground.phase }, { on := 1, ground := Ground.phase }, { on := 2, ground := Ground.phase }, { on := 3, ground := Ground.phase }, { on := 4, ground := Ground.phase }, { on := 5, ground := Ground.phase }, { on := 6, ground := Ground.phase }, { on := 7, ground := Ground.phase }, { on := 8, ground := Ground.phase }, { on := 9, ground := Ground.phase }, { on := 10, ground := Ground.phase }], guard := none } : Oper)) rfl (fun K hK => ?_) AllReadyH.nil
    refine st_store (by rfl) 25 (.tmp 4) (.tmp 27) (by rfl) (by rfl) g_4 (by rfl) (cells := (c25 ⟨n, z32, a, z⟩).toArray) (by rfl) (HP.out.blk 0 rfl) (by rw [List.size_toArray, c25_len _ rfl]; kernel_rfl) (show (c25 s0).toArray.size = (c25 ⟨n, z32, a, z⟩).toArray.size from by rw [List.size_toArray, List.size_toArray, c25_len s0 rfl, c25_len _ rfl]) (c25_one _) ?_; intro w5 hg hgr; have HPn := Aside0.mk (HP.out.setB 0 rfl hgr hg); clear HP; have HP := HPn; clear HPn; clear hg hgr
    clear hHeld
    refine hK.out _ _ ?_ (fun hHeld => ?_)
    · (try dsimp only); (try trivial)
    clear hK K
    try simp only [Act.put, List.setIfInBounds_toArray, List.set_cons_zero, List.set_cons_succ]
    refine wpAnyH_done (by kernel_rfl) ?_ _
    clear hHeld hrun8 hrun4 hrun5 CN8 CN4 CN5
    have HPn := Aside0.mk (show Hp w _ [.blk g_4 (.cells (c25 ⟨n, rootJ m 0, a, z⟩).toArray 25 (0, 0)), .blk g_o (.cells (c25 s0).toArray 25 (0, 0))] from by rw [rootJ_0]; exact HP.out)
    clear HP
    go_wp2_with fail
    go_loopg [5] 32 (fun kq v5 w' => ∃ (j : Nat) (x : Int), v5 = .int .i64 x ∧ Aside0 (x = (j : Int)) ∧ Aside0 (kq + j = 32) ∧ Aside0 (Hp w w' [.blk g_4 (.cells (c25 ⟨n, rootJ m j, a, z⟩).toArray 25 (0, 0)), .blk g_o (.cells (c25 s0).toArray 25 (0, 0))]))
    case atStart => exact ⟨0, 0, rfl, ⟨rfl⟩, ⟨rfl⟩, HPn⟩
    clear HPn
    obtain ⟨j, x, rfl, HXj, HKj, HP⟩ := hrel
    have hx := HXj.out
    by_cases c1 : j < 32
    · have dl : decide (x < 32) = true := decide_eq_true (by omega)
      have ex := i64k (x := x + 1) rfl (by omega)
      obtain ⟨y, hy⟩ : ∃ y, 10 + x = y := ⟨_, rfl⟩
      have ey := i64k hy (by omega)
      have p0 : 0 ≤ y := by omega
      have p1 : y < (b.length : Int) := by have := HL.out; omega
      have p2 : 0 ≤ x := by omega
      have p3 : x < 32 := by omega
      have p4 : y.toNat < b.length := by omega
      have p5 : x.toNat < 32 := by omega
      have hcb := cellsN (Kd.C_below HR.out HP.out.below) y.toNat (by omega)
      rw [show ((y.toNat : Nat) : Int) = y by omega] at hcb
      have hrd := HMR.out j c1
      rw [show ((10 + j : Nat) : Int) = y by omega] at hrd
      obtain ⟨x0, hx0⟩ := c25_cell n a z (rootJ m j) (rootJ_len m HML.out j (by omega)) j c1
      have hcw := cell_in (HP.out.blk 0 rfl) (1 + j) hx0
      have hfw := blk_frozen (HP.out.blk 0 rfl) (1 + j)
      rw [show 1 + j = 1 + x.toNat by omega] at hcw hfw
      have HPn := Aside0.mk (HP.out.setCell 0 rfl (1 + j) (.int .u8 (rd m (j : Int))))
      rw [c25_set n a z m HML.out j c1, hrd] at HPn
      rw [show 1 + j = 1 + x.toNat by omega] at HPn
      have HC1 := Aside0.mk c1
      clear hx c1 hy hrd hx0 HP
      go_wp2
      go_roundg (gk - 1)
      case measure => have := HKj.out; have := HC1.out; omega
      case rel => exact ⟨j + 1, x + 1, rfl, ⟨by have := HXj.out; omega⟩, ⟨by have := HKj.out; have := HC1.out; omega⟩, HPn⟩
    have dl : decide (x < 32) = false := decide_eq_false (by omega)
    obtain rfl : j = 32 := by have := HKj.out; omega
    rw [rootJ_32 m HML.out] at HP
    clear hx c1
    have HSL := Aside0.mk (c25_len ⟨n, m, a, z⟩ HML.out)
    have HS1 := Aside0.mk (c25_one ⟨n, m, a, z⟩)
    obtain ⟨S, hS⟩ : ∃ y : SP, ⟨n, m, a, z⟩ = y := ⟨_, rfl⟩
    rw [hS] at HP HSL HS1 CP8 CP0 HIQ HT HPX
    clear hS
    obtain ⟨X, hX⟩ : ∃ y, packS S = y := ⟨_, rfl⟩
    rw [hX] at CP8 HIQ HPX
    clear hX
    obtain ⟨cS, hcS⟩ : ∃ y, c25 S = y := ⟨_, rfl⟩
    rw [hcS] at HP HSL HS1 CP8 CP0
    have HCS := Aside0.mk hcS
    clear hcS
    go_wp2_with (first | ((with_reducible refine gate_dst (N := 41) rfl ?_); refine ev_load rfl 25 (.tmp 4) rfl g_4 rfl (HP.out.blk 0 rfl) Try.underlying25 rfl (by rw [List.size_toArray, HSL.out]; kernel_rfl) ?_))
    obtain ⟨ks, hks⟩ : ∃ y, chk S = y := ⟨_, rfl⟩
    rw [hks] at CP8 CP0 HIQ
    clear hks
    cases ks
    · have HN := Aside0.mk (show isS b = false from by rw [Bool.eq_false_iff]; intro h; have := (HIQ.out.1 h).1; cases this)
      refine (CP0.out _ rfl).mono ?_; rintro e w6 ⟨rfl, hb⟩; have HPn := Aside0.mk (HP.out.call hb); clear HP; have HP := HPn; clear HPn; clear hb
      go_wp2_with (first | ((with_reducible refine gate_store (t := 25) (p := 2) rfl ?_); refine ev_store rfl 25 (.tmp 2) (.tmp 54) rfl rfl _ rfl (cells := (c25 s0).toArray) rfl (HP.out.blk 1 rfl) (by rw [List.size_toArray, c25_len s0 rfl]; kernel_rfl) (by rfl) (c25_one s0) ?_; intro wz hg hgr; have HPn := Aside0.mk (HP.out.setB 1 rfl hgr hg); clear HP; have HP := HPn; clear HPn; clear hg hgr))
      refine bodyPost_ret (resCT rfl _ _ rfl (HP.out.blk 1 rfl) Try.underlying25 rfl (by rw [List.size_toArray, c25_len s0 rfl]; kernel_rfl) rfl) rfl ?_
      exact ⟨by rw [HF.out HN.out, HN.out]; rfl, HP.out.below⟩
    · refine (CP8.out _ rfl).mono ?_; rintro e w6 ⟨v, rfl, ho, hb⟩
      have HPn := Aside0.mk (HP.out.newR hb ho)
      clear HP ho hb
      have HP := HPn
      clear HPn
      obtain ⟨A6, c6, rfl⟩ := Kd.R_slice (HP.out.row 0 rfl)
      have hcv1 := Kd.C_string (P := Try.prog) (A := A6) (c := c6) Try.underlying26 Try.underlying5 Try.underlying9 (Kd.R_reads' (HP.out.row 0 rfl)).2.2
      have hcv2 := Kd.C_string (P := Try.prog) (A := some ⟨bA, oA, none⟩) (c := c) Try.underlying26 Try.underlying5 Try.underlying9 (Kd.C_below HR.out HP.out.below)
      have hbq := eq_beq X b HPX.out HBY.out
      by_cases e1 : X = b
      · have HN := Aside0.mk (show isS b = true from HIQ.out.2 ⟨rfl, e1⟩)
        rw [decide_eq_true e1] at hbq
        clear e1
        go_wp2_with (first | ((with_reducible refine gate_dst (N := 55) rfl ?_); refine ev_load rfl 25 (.tmp 4) rfl g_4 rfl (HP.out.blk 1 rfl) Try.underlying25 rfl (by rw [List.size_toArray, HSL.out]; kernel_rfl) ?_) | ((with_reducible refine gate_store (t := 25) (p := 2) rfl ?_); refine ev_store rfl 25 (.tmp 2) (.tmp 55) rfl rfl _ rfl (cells := cS.toArray) rfl (HP.out.blk 2 rfl) (by rw [List.size_toArray, HSL.out]; kernel_rfl) (show (c25 s0).toArray.size = cS.toArray.size from by rw [List.size_toArray, List.size_toArray, HSL.out, c25_len s0 rfl]) HS1.out ?_; intro wz hg hgr; have HPn := Aside0.mk (HP.out.setB 2 rfl hgr hg); clear HP; have HP := HPn; clear HPn; clear hg hgr))
        refine bodyPost_ret (resCT rfl _ _ rfl (HP.out.blk 2 rfl) Try.underlying25 rfl (by rw [List.size_toArray, HSL.out]; kernel_rfl) rfl) rfl ?_
        exact ⟨by rw [HT.out HN.out, HN.out, HCS.out]; rfl, HP.out.below⟩
      · have HN := Aside0.mk (show isS b = false from by rw [Bool.eq_false_iff]; intro h; exact e1 (HIQ.out.1 h).2)
        rw [decide_eq_false e1] at hbq
        clear e1
        go_wp2_with (first | ((with_reducible refine gate_store (t := 25) (p := 2) rfl ?_); refine ev_store rfl 25 (.tmp 2) (.tmp 54) rfl rfl _ rfl (cells := (c25 s0).toArray) rfl (HP.out.blk 2 rfl) (by rw [List.size_toArray, c25_len s0 rfl]; kernel_rfl) (by rfl) (c25_one s0) ?_; intro wz hg hgr; have HPn := Aside0.mk (HP.out.setB 2 rfl hgr hg); clear HP; have HP := HPn; clear HPn; clear hg hgr))
        refine bodyPost_ret (resCT rfl _ _ rfl (HP.out.blk 2 rfl) Try.underlying25 rfl (by rw [List.size_toArray, c25_len s0 rfl]; kernel_rfl) rfl) rfl ?_
        exact ⟨by rw [HF.out HN.out, HN.out]; rfl, HP.out.below⟩
  refine AllReadyH.cons (o := ({ dst := (some 4), op := (Op.alloc 25), type := 0, pos := "ref.go:54", after := #[], guard := none } : Oper)) rfl (fun K hK => ?_) AllReadyH.nil
  refine st_alloc (by rfl) 25 (by rfl) (.agg (c25 s0).toArray) (by kernel_rfl) ?_; intro g_4 w4 hge hg hb; have HPn := Aside0.mk (HP.out.newB hb hg hge); clear HP; have HP := HPn; clear HPn; clear hge hg hb
  clear hHeld
  refine hK.out _ _ ?_ (fun hHeld => ?_)
  · (try dsimp only); (try trivial)
  clear hK K
  try simp only [Act.put, List.setIfInBounds_toArray, List.set_cons_zero, List.set_cons_succ]
  refine wpAnyH_ready (rs := [2]) (by kernel_rfl) (by simp) ?_
  refine AllReadyH.cons (o := ({ dst := (some 20), op := (Op.call { callee := (Callee.value (Operand.func 45)), args := #[(Operand.tmp 19)], argTypes := #[26] }), type := 3, pos := "ref.go:54", after := #[{ on := 1, ground := Ground.data }], guard := none } : Oper)) rfl (fun K hK => ?_) AllReadyH.nil
  go_simp
  refine (CN8.out _ HP.out.below).mono ?_; rintro e wa ⟨rfl, n_, rfl⟩; have HPn := Aside0.mk (HP.out.drewN n_); clear HP; have HP := HPn; clear HPn; (try simp only [World.drewN_drewN] at HP)
  go_wp2_with fail
  clear hHeld
  refine hK.out _ _ ?_ (fun hHeld => ?_)
  · (try dsimp only); (try trivial)
  clear hK K
  try simp only [Act.put, List.setIfInBounds_toArray, List.set_cons_zero, List.set_cons_succ]
  refine wpAnyH_ready (rs := [5]) (by kernel_rfl) (by simp) ?_
  refine AllReadyH.cons (o := ({ dst := (some 23), op := (Op.call { callee := (Callee.value (Operand.func 45)), args := #[(Operand.tmp 22)], argTypes := #[26] }), type := 3, pos := "ref.go:54", after := #[{ on := 4, ground := Ground.data }, { on := 2, ground := Ground.chain }], guard := none } : Oper)) rfl (fun K hK => ?_) AllReadyH.nil
  go_simp
  refine (CN4.out _ HP.out.below).mono ?_; rintro e wb ⟨rfl, n_, rfl⟩; have HPn := Aside0.mk (HP.out.drewN n_); clear HP; have HP := HPn; clear HPn; (try simp only [World.drewN_drewN] at HP)
  go_wp2_with fail
  clear hHeld
  refine hK.out _ _ ?_ (fun hHeld => ?_)
  · (try dsimp only); (try trivial)
  clear hK K
  try simp only [Act.put, List.setIfInBounds_toArray, List.set_cons_zero, List.set_cons_succ]
  refine wpAnyH_ready (rs := [8]) (by kernel_rfl) (by simp) ?_
  refine AllReadyH.cons (o := ({ dst := (some 26), op := (Op.call { callee := (Callee.value (Operand.func 45)), args := #[(Operand.tmp 25)], argTypes := #[26] }), type := 3, pos := "ref.go:54", after := #[{ on := 7, ground := Ground.data }, { on := 5, ground := Ground.chain }], guard := none } : Oper)) rfl (fun K hK => ?_) AllReadyH.nil
  go_simp
  refine (CN5.out _ HP.out.below).mono ?_; rintro e wc ⟨rfl, n_, rfl⟩; have HPn := Aside0.mk (HP.out.drewN n_); clear HP; have HP := HPn; clear HPn; (try simp only [World.drewN_drewN] at HP)
  go_wp2_with fail
  clear hHeld
  refine hK.out _ _ ?_ (fun hHeld => ?_)
  · (try dsimp only); (try trivial)
  clear hK K
  try simp only [Act.put, List.setIfInBounds_toArray, List.set_cons_zero, List.set_cons_succ]
  refine wpAnyH_take (i := 9) (oi := ({ dst := (some 27), op := (Op.build 25 #[(0, (Operand.tmp 20)), (2, (Operand.tmp 23)), (3, (Operand.tmp 26))]), type := 25, pos := "ref.go:54", after := #[{ on := 2, ground := Ground.data }, { on := 5, ground := Ground.data }, { on := 8, ground := Ground.data }], guard := none } : Oper)) (v := ?_) rfl (by kernel_rfl) (by kernel_rfl) (by kernel_rfl) (fun _ _ _ h => h) (Or.inl ⟨by rfl, ?_⟩) hHeld ?_
  rotate_left
  · intro w_ hSw; (try dsimp only at hSw); go_simp; try (with_reducible rfl)
  try simp only [Act.put, List.setIfInBounds_toArray, List.set_cons_zero, List.set_cons_succ]
  refine wpAnyH_ready (rs := [11]) (by kernel_rfl) (by simp) ?_
  refine AllReadyH.cons (o := ({ dst := none, op := (Op.store 25 (Operand.tmp 4) (Operand.tmp 27)), type := 0, pos := "ref.go:54", after := #[{ on := 10, ground := Ground.data }, { on := 9, ground := Ground.data }, { on := 8, ground := Ground.chain }, { on := 0, ground := Ground.phase }, { on := 1, ground := Ground.phase }, { on := 2, ground := Ground.phase }, { on := 3, ground := Ground.phase }, { on := 4, ground := Ground.phase }, { on := 5, ground := Ground.phase }, { on := 6, ground := Ground.phase }, { on := 7, ground := Ground.phase }, { on := 8, ground := Ground.phase }, { on := 9, ground := Ground.phase }, { on := 10, ground := Ground.phase }], guard := none } : Oper)) rfl (fun K hK => ?_) AllReadyH.nil
  refine st_store (by rfl) 25 (.tmp 4) (.tmp 27) (by rfl) (by rfl) g_4 (by rfl) (cells := (c25 ⟨n, z32, a, z⟩).toArray) (by rfl) (HP.out.blk 0 rfl) (by rw [List.size_toArray, c25_len _ rfl]; kernel_rfl) (show (c25 s0).toArray.size = (c25 ⟨n, z32, a, z⟩).toArray.size from by rw [List.size_toArray, List.size_toArray, c25_len s0 rfl, c25_len _ rfl]) (c25_one _) ?_; intro w5 hg hgr; have HPn := Aside0.mk (HP.out.setB 0 rfl hgr hg); clear HP; have HP := HPn; clear HPn; clear hg hgr
  clear hHeld
  refine hK.out _ _ ?_ (fun hHeld => ?_)
  · (try dsimp only); (try trivial)
  clear hK K
  try simp only [Act.put, List.setIfInBounds_toArray, List.set_cons_zero, List.set_cons_succ]
  refine wpAnyH_done (by kernel_rfl) ?_ _
  clear hHeld hrun8 hrun4 hrun5 CN8 CN4 CN5
  have HPn := Aside0.mk (show Hp w _ [.blk g_4 (.cells (c25 ⟨n, rootJ m 0, a, z⟩).toArray 25 (0, 0)), .blk g_o (.cells (c25 s0).toArray 25 (0, 0))] from by rw [rootJ_0]; exact HP.out)
  clear HP
  go_wp2_with fail
  go_loopg [5] 32 (fun kq v5 w' => ∃ (j : Nat) (x : Int), v5 = .int .i64 x ∧ Aside0 (x = (j : Int)) ∧ Aside0 (kq + j = 32) ∧ Aside0 (Hp w w' [.blk g_4 (.cells (c25 ⟨n, rootJ m j, a, z⟩).toArray 25 (0, 0)), .blk g_o (.cells (c25 s0).toArray 25 (0, 0))]))
  case atStart => exact ⟨0, 0, rfl, ⟨rfl⟩, ⟨rfl⟩, HPn⟩
  clear HPn
  obtain ⟨j, x, rfl, HXj, HKj, HP⟩ := hrel
  have hx := HXj.out
  by_cases c1 : j < 32
  · have dl : decide (x < 32) = true := decide_eq_true (by omega)
    have ex := i64k (x := x + 1) rfl (by omega)
    obtain ⟨y, hy⟩ : ∃ y, 10 + x = y := ⟨_, rfl⟩
    have ey := i64k hy (by omega)
    have p0 : 0 ≤ y := by omega
    have p1 : y < (b.length : Int) := by have := HL.out; omega
    have p2 : 0 ≤ x := by omega
    have p3 : x < 32 := by omega
    have p4 : y.toNat < b.length := by omega
    have p5 : x.toNat < 32 := by omega
    have hcb := cellsN (Kd.C_below HR.out HP.out.below) y.toNat (by omega)
    rw [show ((y.toNat : Nat) : Int) = y by omega] at hcb
    have hrd := HMR.out j c1
    rw [show ((10 + j : Nat) : Int) = y by omega] at hrd
    obtain ⟨x0, hx0⟩ := c25_cell n a z (rootJ m j) (rootJ_len m HML.out j (by omega)) j c1
    have hcw := cell_in (HP.out.blk 0 rfl) (1 + j) hx0
    have hfw := blk_frozen (HP.out.blk 0 rfl) (1 + j)
    rw [show 1 + j = 1 + x.toNat by omega] at hcw hfw
    have HPn := Aside0.mk (HP.out.setCell 0 rfl (1 + j) (.int .u8 (rd m (j : Int))))
    rw [c25_set n a z m HML.out j c1, hrd] at HPn
    rw [show 1 + j = 1 + x.toNat by omega] at HPn
    have HC1 := Aside0.mk c1
    clear hx c1 hy hrd hx0 HP
    go_wp2
    go_roundg (gk - 1)
    case measure => have := HKj.out; have := HC1.out; omega
    case rel => exact ⟨j + 1, x + 1, rfl, ⟨by have := HXj.out; omega⟩, ⟨by have := HKj.out; have := HC1.out; omega⟩, HPn⟩
  have dl : decide (x < 32) = false := decide_eq_false (by omega)
  obtain rfl : j = 32 := by have := HKj.out; omega
  rw [rootJ_32 m HML.out] at HP
  clear hx c1
  have HSL := Aside0.mk (c25_len ⟨n, m, a, z⟩ HML.out)
  have HS1 := Aside0.mk (c25_one ⟨n, m, a, z⟩)
  obtain ⟨S, hS⟩ : ∃ y : SP, ⟨n, m, a, z⟩ = y := ⟨_, rfl⟩
  rw [hS] at HP HSL HS1 CP8 CP0 HIQ HT HPX
  clear hS
  obtain ⟨X, hX⟩ : ∃ y, packS S = y := ⟨_, rfl⟩
  rw [hX] at CP8 HIQ HPX
  clear hX
  obtain ⟨cS, hcS⟩ : ∃ y, c25 S = y := ⟨_, rfl⟩
  rw [hcS] at HP HSL HS1 CP8 CP0
  have HCS := Aside0.mk hcS
  clear hcS
  go_wp2_with (first | ((with_reducible refine gate_dst (N := 41) rfl ?_); refine ev_load rfl 25 (.tmp 4) rfl g_4 rfl (HP.out.blk 0 rfl) Try.underlying25 rfl (by rw [List.size_toArray, HSL.out]; kernel_rfl) ?_))
  obtain ⟨ks, hks⟩ : ∃ y, chk S = y := ⟨_, rfl⟩
  rw [hks] at CP8 CP0 HIQ
  clear hks
  cases ks
  · have HN := Aside0.mk (show isS b = false from by rw [Bool.eq_false_iff]; intro h; have := (HIQ.out.1 h).1; cases this)
    refine (CP0.out _ rfl).mono ?_; rintro e w6 ⟨rfl, hb⟩; have HPn := Aside0.mk (HP.out.call hb); clear HP; have HP := HPn; clear HPn; clear hb
    go_wp2_with (first | ((with_reducible refine gate_store (t := 25) (p := 2) rfl ?_); refine ev_store rfl 25 (.tmp 2) (.tmp 54) rfl rfl _ rfl (cells := (c25 s0).toArray) rfl (HP.out.blk 1 rfl) (by rw [List.size_toArray, c25_len s0 rfl]; kernel_rfl) (by rfl) (c25_one s0) ?_; intro wz hg hgr; have HPn := Aside0.mk (HP.out.setB 1 rfl hgr hg); clear HP; have HP := HPn; clear HPn; clear hg hgr))
    refine bodyPost_ret (resCT rfl _ _ rfl (HP.out.blk 1 rfl) Try.underlying25 rfl (by rw [List.size_toArray, c25_len s0 rfl]; kernel_rfl) rfl) rfl ?_
    exact ⟨by rw [HF.out HN.out, HN.out]; rfl, HP.out.below⟩
  · refine (CP8.out _ rfl).mono ?_; rintro e w6 ⟨v, rfl, ho, hb⟩
    have HPn := Aside0.mk (HP.out.newR hb ho)
    clear HP ho hb
    have HP := HPn
    clear HPn
    obtain ⟨A6, c6, rfl⟩ := Kd.R_slice (HP.out.row 0 rfl)
    have hcv1 := Kd.C_string (P := Try.prog) (A := A6) (c := c6) Try.underlying26 Try.underlying5 Try.underlying9 (Kd.R_reads' (HP.out.row 0 rfl)).2.2
    have hcv2 := Kd.C_string (P := Try.prog) (A := some ⟨bA, oA, none⟩) (c := c) Try.underlying26 Try.underlying5 Try.underlying9 (Kd.C_below HR.out HP.out.below)
    have hbq := eq_beq X b HPX.out HBY.out
    by_cases e1 : X = b
    · have HN := Aside0.mk (show isS b = true from HIQ.out.2 ⟨rfl, e1⟩)
      rw [decide_eq_true e1] at hbq
      clear e1
      go_wp2_with (first | ((with_reducible refine gate_dst (N := 55) rfl ?_); refine ev_load rfl 25 (.tmp 4) rfl g_4 rfl (HP.out.blk 1 rfl) Try.underlying25 rfl (by rw [List.size_toArray, HSL.out]; kernel_rfl) ?_) | ((with_reducible refine gate_store (t := 25) (p := 2) rfl ?_); refine ev_store rfl 25 (.tmp 2) (.tmp 55) rfl rfl _ rfl (cells := cS.toArray) rfl (HP.out.blk 2 rfl) (by rw [List.size_toArray, HSL.out]; kernel_rfl) (show (c25 s0).toArray.size = cS.toArray.size from by rw [List.size_toArray, List.size_toArray, HSL.out, c25_len s0 rfl]) HS1.out ?_; intro wz hg hgr; have HPn := Aside0.mk (HP.out.setB 2 rfl hgr hg); clear HP; have HP := HPn; clear HPn; clear hg hgr))
      refine bodyPost_ret (resCT rfl _ _ rfl (HP.out.blk 2 rfl) Try.underlying25 rfl (by rw [List.size_toArray, HSL.out]; kernel_rfl) rfl) rfl ?_
      exact ⟨by rw [HT.out HN.out, HN.out, HCS.out]; rfl, HP.out.below⟩
    · have HN := Aside0.mk (show isS b = false from by rw [Bool.eq_false_iff]; intro h; exact e1 (HIQ.out.1 h).2)
      rw [decide_eq_false e1] at hbq
      clear e1
      go_wp2_with (first | ((with_reducible refine gate_store (t := 25) (p := 2) rfl ?_); refine ev_store rfl 25 (.tmp 2) (.tmp 54) rfl rfl _ rfl (cells := (c25 s0).toArray) rfl (HP.out.blk 2 rfl) (by rw [List.size_toArray, c25_len s0 rfl]; kernel_rfl) (by rfl) (c25_one s0) ?_; intro wz hg hgr; have HPn := Aside0.mk (HP.out.setB 2 rfl hgr hg); clear HP; have HP := HPn; clear HPn; clear hg hgr))
      refine bodyPost_ret (resCT rfl _ _ rfl (HP.out.blk 2 rfl) Try.underlying25 rfl (by rw [List.size_toArray, c25_len s0 rfl]; kernel_rfl) rfl) rfl ?_
      exact ⟨by rw [HF.out HN.out, HN.out]; rfl, HP.out.below⟩
end Go.Proofs.Ytgflghnbpbiakaa.Su
