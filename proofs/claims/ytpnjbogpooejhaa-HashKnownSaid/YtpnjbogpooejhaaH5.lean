import Derived.Test.YtpnjbogpooejhaaH4
namespace Go.Proofs.Ytpnjbogpooejhaa.H
open Go.RowKit Go.Proofs.Ytpnjbogpooejhaa.XH Go.Proofs.YtpnjbogpooejhaaW.PrintWords Go.Proofs.YtpnjbogpooejhaaW.PrintLast Go.Proofs.YtpnjbogpooejhaaW.PrintMore Go.Proofs.YtpnjbogpooejhaaXe Go.Proofs.YtpnjbogpooejhaaXs
set_option linter.unusedVariables false
set_option linter.unusedSimpArgs false
attribute [local go_sem ↓] Go.wp_at_zero Go.wp_at_succ
attribute [local go_sem] valUpon
/-- values that are built, whole: opaque for the walks -/
noncomputable def BN52 (parts : Array (Nat × Value)) : Sem Value := Instr.build 52 parts
noncomputable def BN67 (parts : Array (Nat × Value)) : Sem Value := Instr.build 67 parts
noncomputable def BN23 (parts : Array (Nat × Value)) : Sem Value := Instr.build 23 parts
theorem bn52 (parts : Array (Nat × Value)) : Instr.build 52 parts = BN52 parts := rfl
theorem bn67 (parts : Array (Nat × Value)) : Instr.build 67 parts = BN67 parts := rfl
theorem bn23 (parts : Array (Nat × Value)) : Instr.build 23 parts = BN23 parts := rfl
theorem BN52.run (w : World) : (BN52 #[(0, .bool true), (1, .agg (u32s H0.l).toArray)]).run Try.prog w = .ok (.agg (dc true H0 (List.replicate 64 0) 0).toArray) w := by unfold BN52; kernel_rfl
theorem BN67.run (w : World) : (BN67 #[(0, .int .u8 128)]).run Try.prog w = .ok (.agg (u8s (128 :: List.replicate 71 0)).toArray) w := by unfold BN67; kernel_rfl
theorem BN23.run (w : World) : (BN23 #[]).run Try.prog w = .ok (.agg (u8s (List.replicate 32 0)).toArray) w := by unfold BN23; kernel_rfl
attribute [local go_sem ↓ high] bn52 bn67 bn23
attribute [local go_sem high] BN52.run BN67.run BN23.run
set_option maxHeartbeats 8000000 in
set_option maxRecDepth 100000 in
theorem c_first (w : World) : Calls Try.prog 30 #[] w fun e w' => e = .returned (.agg (u32s H0.l).toArray) ∧ Below w.heap.size w w' := hash_first.calls _ _ _ _ _ _ _ _ w rfl
theorem dig0 : DigI H0 (List.replicate 64 0) [] := ⟨by simp, rfl, rfl⟩
set_option maxHeartbeats 8000000 in
set_option maxRecDepth 100000 in
theorem c_new (w : World) : Calls Try.prog 16 #[] w fun e w' => ∃ g, e = .returned (.pointer (some ⟨g, 0, none⟩)) ∧ w.heap.size ≤ g ∧ w'.heap[g]? = some (.cells (dc true H0 (List.replicate 64 0) 0).toArray 52 (0, 0)) ∧ Below w.heap.size w w' := by
  have HP := Aside0.mk (Hp.start w)
  go_enter Try.func16, Try.ntmps16
  go_wp2_with fail
  (with_reducible refine (c_first _).mono ?_); rintro e wn1 ⟨rfl, hb⟩; have HPn := Aside0.mk (HP.out.call hb); clear HP; have HP := HPn; clear HPn; clear hb
  go_wp2_with (first | ((with_reducible refine gate_dst (N := 3) rfl ?_); refine ev_box rfl 52 (.tmp 2) rfl (dc true H0 (List.replicate 64 0) 0).toArray rfl ?_; intro g_d wn2 hge hg hb; have HPn := Aside0.mk (HP.out.newB hb hg hge); clear HP; have HP := HPn; clear HPn; clear hge hg hb))
  exact bodyPost_ret (v := .pointer (some ⟨g_d, 0, none⟩)) (by simp [results, Try.results16, go_sem]) rfl ⟨_, rfl, HP.out.blk_ge 0 rfl, HP.out.blk 0 rfl, HP.out.below⟩
set_option maxHeartbeats 8000000 in
set_option maxRecDepth 100000 in
theorem c_len (g : Nat) (v : V8) (p : List Int) (n : Int) (hp : p.length = 64) (w : World) (hg : w.heap[g]? = some (.cells (dc true v p n).toArray 52 (0, 0))) : Calls Try.prog 25 #[.pointer (some ⟨g, 0, none⟩)] w fun e w' => e = .returned (.int .i64 n) ∧ w' = w := by
  have h0 := dc_c0 hg
  have h73 := dc_c73 hp hg
  clear hg
  go_enter Try.func25, Try.ntmps25
  go_wp2_with (go_at_call 31; refine (c_absent g true _ h0).mono ?_; rintro e w_ ⟨rfl, rfl⟩)
  go_ret
  exact ⟨rfl, rfl⟩
theorem C_blkL {w : World} {g : Nat} {l : List Int} {t : TypeId} {k : IntKind} (hg : w.heap[g]? = some (.cells (l.map (Value.int k)).toArray t (0, 0))) (hl : l.length ≤ 9223372036854775807) : Kd.C (Kd.int k) w (some ⟨g, 0, none⟩) l.length l := by
  refine C_ints hl fun j x hj => ?_
  rw [add_at, cell_of_row w g _ _ _ _ hg]
  simp [hj]
theorem one_u8 (l : List Int) : (u8s l).toArray.all (·.oneCell') = true := by simp [u8s, Value.oneCell']
theorem dc_one (m : Bool) (v : V8) (p : List Int) (n : Int) : (dc m v p n).toArray.all (·.oneCell') = true := by simp [dc, u8s, u32s, V8.l, Value.oneCell']
/-- what is laid behind the bytes -/
def restI (sz : Nat) (lg : Int) : Nat → List Int
  | 0 => 128 :: List.replicate 71 0
  | i + 1 => (restI sz lg i).set (sz + i) (lg / 2 ^ (56 - 8 * i) % 256)
theorem restI_len (sz : Nat) (lg : Int) : ∀ i, (restI sz lg i).length = 72
  | 0 => rfl
  | i + 1 => by rw [restI, List.length_set]; exact restI_len sz lg i
def szI (n : Nat) : Nat := 1 + (119 - n % 64) % 64
def padI (n : Nat) : List Int := (restI (szI n) ((n : Int) * 8) 8).take (szI n + 8)
def byteI (ws : List Int) (j : Nat) : Int := rd ws ((j / 4 : Nat) : Int) / 2 ^ (24 - 8 * (j % 4)) % 256
def outI (ws : List Int) (m : Nat) : List Int := (List.range m).map (byteI ws) ++ List.replicate (32 - m) 0
theorem outI_len (ws : List Int) (m : Nat) (h : m ≤ 32) : (outI ws m).length = 32 := by simp [outI]; omega
theorem outI_step (ws : List Int) (m : Nat) (h : m < 32) : (outI ws m).set m (byteI ws m) = outI ws (m + 1) := by
  unfold outI
  obtain ⟨q, hq⟩ : ∃ q, 32 - m = q + 1 := ⟨31 - m, by omega⟩
  have h2 : 32 - (m + 1) = q := by omega
  rw [hq, h2, List.range_succ, List.map_append, List.append_assoc, List.set_append_right _ _ (by simp)]
  simp [List.replicate_succ]
/-- the digest of bytes -/
noncomputable def sha (M : List Int) : List Int := outI (foldB ((M ++ padI M.length).length / 64) H0 (M ++ padI M.length)).l 32
set_option maxHeartbeats 8000000 in
set_option maxRecDepth 100000 in
theorem c_sum (g : Nat) (v : V8) (p M : List Int) (w : World) (hg : w.heap[g]? = some (.cells (dc true v p (M.length : Int)).toArray 52 (0, 0))) (hd : DigI v p M) (hm : M.length ≤ 100000000000000) :
    Calls Try.prog 24 #[.pointer (some ⟨g, 0, none⟩)] w fun e w' => e = .returned (.agg (u8s (sha M)).toArray) ∧ Below w.heap.size w w' := by
  have HLT := Aside0.mk (blk_lt hg)
  have HG := Aside0.mk hg
  have HPL := Aside0.mk hd.len
  have HD := Aside0.mk hd
  have HP := Aside0.mk (Hp.start w)
  have h0 := dc_c0 hg
  have h73 := dc_c73 HPL.out hg
  obtain ⟨r, hr⟩ : ∃ r : Int, (M.length : Int) % 64 = r := ⟨_, rfl⟩
  have er : Int.tmod (M.length : Int) 64 = r := by rw [Int.tmod_eq_emod_of_nonneg (by omega)]; exact hr
  obtain ⟨y, hy⟩ : ∃ y, 119 - r = y := ⟨_, rfl⟩
  have ey := i64k hy (by omega)
  obtain ⟨z, hz⟩ : ∃ z : Int, y % 64 = z := ⟨_, rfl⟩
  have ez : Int.tmod y 64 = z := by rw [Int.tmod_eq_emod_of_nonneg (by omega)]; exact hz
  obtain ⟨sz, hsz⟩ : ∃ sz, 1 + z = sz := ⟨_, rfl⟩
  have es := i64k hsz (by omega)
  obtain ⟨lg, hlg⟩ : ∃ lg, (M.length : Int) * 8 = lg := ⟨_, rfl⟩
  have eu : IntKind.u64.wrap (M.length : Int) = (M.length : Int) := by simp [IntKind.wrap, IntKind.bits, IntKind.signed]; omega
  have el : IntKind.u64.wrap ((M.length : Int) * 8) = lg := by rw [← hlg]; simp [IntKind.wrap, IntKind.bits, IntKind.signed]; omega
  have HS := Aside0.mk (show sz = (szI M.length : Int) by unfold szI; omega)
  have HLG := Aside0.mk hlg.symm
  have HS1 := Aside0.mk (show 1 ≤ sz ∧ sz ≤ 64 by omega)
  have HLB := Aside0.mk (show 0 ≤ lg by omega)
  have hm0 := Aside0.mk hm
  clear hr hy hz hsz hlg hg hd hm
  go_enter Try.func24, Try.ntmps24
  go_wp2_with (first | ((with_reducible refine gate_dst (N := 2) rfl ?_); refine ev_alloc rfl 23 rfl (.agg (u8s (List.replicate 32 0)).toArray) (by kernel_rfl) ?_; intro g_o wn1 hge hg hb; have HPn := Aside0.mk (HP.out.newB hb hg hge); clear HP; have HP := HPn; clear HPn; clear h0 h73; have h0 := dc_c0 ((HP.out.below.block g HLT.out).trans HG.out); have h73 := dc_c73 HPL.out ((HP.out.below.block g HLT.out).trans HG.out); clear hge hg hb))
  (with_reducible refine (c_absent g true _ h0).mono ?_); rintro e w_ ⟨rfl, rfl⟩
  go_wp2_with (first | ((with_reducible refine gate_dst (N := 17) rfl ?_); refine ev_load rfl 52 (.tmp 16) rfl g rfl ((HP.out.below.block g HLT.out).trans HG.out) Try.underlying52 rfl (by rw [List.size_toArray, dc_len _ _ _ _ HPL.out]; kernel_rfl) ?_) | ((with_reducible refine gate_dst (N := 3) rfl ?_); refine ev_alloc rfl 52 rfl (.agg (dc false ⟨0, 0, 0, 0, 0, 0, 0, 0⟩ (List.replicate 64 0) 0).toArray) (by kernel_rfl) ?_; intro g_x wn2 hge hg hb; have HPn := Aside0.mk (HP.out.newB hb hg hge); clear HP; have HP := HPn; clear HPn; clear h0 h73; have h0 := dc_c0 ((HP.out.below.block g HLT.out).trans HG.out); have h73 := dc_c73 HPL.out ((HP.out.below.block g HLT.out).trans HG.out); clear hge hg hb) | ((with_reducible refine gate_store (t := 52) (p := 3) rfl ?_); refine ev_store rfl 52 (.tmp 3) (.tmp 17) rfl rfl _ rfl (cells := (dc true v p (M.length : Int)).toArray) rfl (HP.out.blk 0 rfl) (by rw [List.size_toArray, dc_len _ _ _ _ HPL.out]; kernel_rfl) (show (dc false ⟨0, 0, 0, 0, 0, 0, 0, 0⟩ (List.replicate 64 0) 0).toArray.size = (dc true v p (M.length : Int)).toArray.size from by rw [List.size_toArray, List.size_toArray, dc_len _ _ _ _ HPL.out]; rfl) (dc_one _ _ _ _) ?_; intro wn3 hg hgr; have HPn := Aside0.mk (HP.out.setB 0 rfl hgr hg); clear HP; have HP := HPn; clear HPn; clear h0 h73; have h0 := dc_c0 ((HP.out.below.block g HLT.out).trans HG.out); have h73 := dc_c73 HPL.out ((HP.out.below.block g HLT.out).trans HG.out); clear hg hgr) | ((with_reducible refine gate_dst (N := 4) rfl ?_); refine ev_alloc rfl 67 rfl (.agg (u8s (List.replicate 72 0)).toArray) (by kernel_rfl) ?_; intro g_r wn4 hge hg hb; have HPn := Aside0.mk (HP.out.newB hb hg hge); clear HP; have HP := HPn; clear HPn; clear h0 h73; have h0 := dc_c0 ((HP.out.below.block g HLT.out).trans HG.out); have h73 := dc_c73 HPL.out ((HP.out.below.block g HLT.out).trans HG.out); clear hge hg hb) | ((with_reducible refine gate_store (t := 67) (p := 4) rfl ?_); refine ev_store rfl 67 (.tmp 4) (.tmp 18) rfl rfl _ rfl (cells := (u8s (128 :: List.replicate 71 0)).toArray) rfl (HP.out.blk 0 rfl) (by kernel_rfl) (by rfl) (one_u8 _) ?_; intro wn5 hg hgr; have HPn := Aside0.mk (HP.out.setB 0 rfl hgr hg); clear HP; have HP := HPn; clear HPn; clear h0 h73; have h0 := dc_c0 ((HP.out.below.block g HLT.out).trans HG.out); have h73 := dc_c73 HPL.out ((HP.out.below.block g HLT.out).trans HG.out); clear hg hgr))
  have HP1 := Aside0.mk (show Hp w wn5 [.blk g_r (.cells (u8s (restI (szI M.length) lg 0)).toArray 67 (0, 0)), .blk g_x (.cells (dc true v p (M.length : Int)).toArray 52 (0, 0)), .blk g_o (.cells (u8s (List.replicate 32 0)).toArray 23 (0, 0))] from HP.out)
  clear HP h0 h73
  go_loopg [7, 33] 8 (fun kq v7 v33 w' => ∃ (i : Nat) (x : Int), v33 = .int .i64 x ∧ Aside0 (x = (i : Int)) ∧ Aside0 (kq + i = 8) ∧ Aside0 (Hp w w' [.blk g_r (.cells (u8s (restI (szI M.length) lg i)).toArray 67 (0, 0)), .blk g_x (.cells (dc true v p (M.length : Int)).toArray 52 (0, 0)), .blk g_o (.cells (u8s (List.replicate 32 0)).toArray 23 (0, 0))]))
  case atStart => exact ⟨0, 0, rfl, ⟨rfl⟩, ⟨rfl⟩, HP1⟩
  case round =>
    clear HP1
    obtain ⟨i, x, rfl, HX, HK, HP⟩ := hrel
    have hx := HX.out
    have hs1 := HS1.out
    by_cases c1 : i < 8
    · have d1 : decide (x < 8) = true := decide_eq_true (by omega)
      have ex := i64k (x := x + 1) rfl (by omega)
      obtain ⟨y1, hy1⟩ : ∃ y, sz + x = y := ⟨_, rfl⟩
      have e1 := i64k hy1 (by omega)
      obtain ⟨y2, hy2⟩ : ∃ y, 8 * x = y := ⟨_, rfl⟩
      have e2 := i64k hy2 (by omega)
      obtain ⟨y3, hy3⟩ : ∃ y, 56 - y2 = y := ⟨_, rfl⟩
      have e3 := i64k hy3 (by omega)
      have p1 : 0 ≤ y1 := by omega
      have q1 : y1 < 72 := by omega
      have p3 : 0 ≤ y3 := by omega
      have dp3 := decide_eq_true p3
      have q3 : y3 ≤ 64 := by omega
      obtain ⟨sv, hsv⟩ : ∃ sv, shr .u64 lg y3 = sv := ⟨_, rfl⟩
      have hsv_ : lg / 2 ^ min y3.toNat 64 = sv := hsv
      have hsvz : y3 ≤ 64 → lg / 2 ^ y3.toNat = sv := shr_small hsv
      have hl := restI_len (szI M.length) lg i
      have hcw := cellL (HP.out.blk 0 rfl) y1 p1 (by rw [hl]; omega)
      have hfw := frozC (HP.out.blk 0 rfl) y1.toNat
      have HY := Aside0.mk (And.intro hy1 (And.intro hy2 (And.intro hy3 (hsvz q3))))
      clear hy1 hy2 hy3 hsv hx hs1 hl
      go_wp2
      have hyn : y1.toNat = szI M.length + i := by have := HY.out.1; have := HX.out; have := HS.out; omega
      have hyv : sv % 256 = lg / 2 ^ (56 - 8 * i) % 256 := by
        obtain ⟨_, z2, z3, z4⟩ := HY.out
        rw [← z4, show y3.toNat = 56 - 8 * i by have := HX.out; omega]
      have HPn := Aside0.mk (HP.out.setCell 0 rfl (szI M.length + i) (.int .u8 (lg / 2 ^ (56 - 8 * i) % 256)))
      rw [show (u8s (restI (szI M.length) lg i)).toArray.setIfInBounds (szI M.length + i) (.int .u8 (lg / 2 ^ (56 - 8 * i) % 256)) = (u8s (restI (szI M.length) lg (i + 1))).toArray from setL (k := .u8) _ _ _] at HPn
      rw [← hyn, ← hyv] at HPn
      go_roundg (gk - 1)
      case measure => have := HK.out; omega
      case rel => exact ⟨i + 1, x + 1, by simp, ⟨by have := HX.out; omega⟩, ⟨by have := HK.out; omega⟩, HPn⟩
    · have d1 : decide (x < 8) = false := decide_eq_false (by omega)
      obtain rfl : i = 8 := by have := HK.out; omega
      obtain ⟨s8, hs8⟩ : ∃ y, sz + 8 = y := ⟨_, rfl⟩
      have e8 := i64k hs8 (by omega)
      have hcut := run_cut_to (P := Try.prog) Try.underlying67 (by kernel_rfl) (by decide) g_r 0 s8 (by omega) (by omega)
      obtain ⟨m8, hm8⟩ : ∃ m8, s8.toNat = m8 := ⟨_, rfl⟩
      rw [hm8] at hcut
      have hpad : (restI (szI M.length) lg 8).take m8 = padI M.length := by unfold padI; rw [HLG.out, show m8 = szI M.length + 8 by have := HS.out; omega]
      have hplen : (padI M.length).length = m8 := by rw [← hpad, List.length_take, restI_len]; omega
      have HPAD := Aside0.mk hpad
      have hmb : M.length + (padI M.length).length ≤ 1000000000000000 := by rw [hplen]; have := hm0.out; omega
      have HPB := Aside0.mk hplen
      have CW := c_write HP.out 1 g_x v p M (padI M.length) rfl HD.out (some ⟨g_r, 0, none⟩) 72 (by rw [hplen]; omega) hmb (fun w' v' p' n' hp => by
        rw [← HPAD.out]
        have h1 : Kd.C (Kd.int .u8) w' (some ⟨g_r, 0, none⟩) (restI (szI M.length) lg 8).length (restI (szI M.length) lg 8) := C_blkL (hp.blk 0 rfl) (by rw [restI_len]; omega)
        exact Kd.C_take (m := m8) h1 (by rw [restI_len]; omega))
      rw [hplen] at CW
      have CWA := Aside0.mk CW
      clear CW hs8 hpad hplen hm8 hmb hx hs1 c1 HX HK
      go_wp2_with fail
      refine CWA.out.mono ?_
      rintro e wn6 ⟨rfl, vv, pp, HD2, hp2⟩
      have HPn := Aside0.mk (show Hp w wn6 [.blk g_r (.cells (u8s (restI (szI M.length) lg 8)).toArray 67 (0, 0)), .blk g_x (.cells (dc true vv pp ((M ++ padI M.length).length : Int)).toArray 52 (0, 0)), .blk g_o (.cells (u8s (List.replicate 32 0)).toArray 23 (0, 0))] from hp2)
      clear HP hp2 CWA
      have HP := HPn
      clear HPn
      go_wp2_with (first | ((with_reducible refine gate_dst (N := 8) rfl ?_); refine ev_alloc rfl 23 rfl (.agg (u8s (List.replicate 32 0)).toArray) (by kernel_rfl) ?_; intro g_b wn7 hge hg hb; have HPn := Aside0.mk (HP.out.newB hb hg hge); clear HP; have HP := HPn; clear HPn; clear hge hg hb) | ((with_reducible refine gate_dst (N := 52) rfl ?_); refine wpList_load_mid rfl 49 (.tmp 51) rfl g_x 1 rfl (u32s vv.l) _ (dc_rs (HP.out.blk 2 rfl)) Try.underlying49 rfl (by kernel_rfl) ?_))
      have HP2 := Aside0.mk (show Hp w wn7 [.blk g_b (.cells (u8s (outI vv.l 0)).toArray 23 (0, 0)), .blk g_r (.cells (u8s (restI (szI M.length) lg 8)).toArray 67 (0, 0)), .blk g_x (.cells (dc true vv pp ((M ++ padI M.length).length : Int)).toArray 52 (0, 0)), .blk g_o (.cells (u8s (List.replicate 32 0)).toArray 23 (0, 0))] from HP.out)
      clear HP
      go_loopg [9, 10, 11, 53, 57] 8 (fun kq v9 v10 v11 v53 v57 w' => ∃ (i : Nat) (x : Int), v53 = .int .i64 x ∧ Aside0 (x = (i : Int)) ∧ Aside0 (kq + i = 8) ∧ Aside0 (Hp w w' [.blk g_b (.cells (u8s (outI vv.l (4 * i))).toArray 23 (0, 0)), .blk g_r (.cells (u8s (restI (szI M.length) lg 8)).toArray 67 (0, 0)), .blk g_x (.cells (dc true vv pp ((M ++ padI M.length).length : Int)).toArray 52 (0, 0)), .blk g_o (.cells (u8s (List.replicate 32 0)).toArray 23 (0, 0))]))
      case atStart => exact ⟨0, 0, rfl, ⟨rfl⟩, ⟨rfl⟩, HP2⟩
      clear HP2
      obtain ⟨i, x, rfl, HX, HK, HP⟩ := hrel
      have hx := HX.out
      by_cases c2 : i < 8
      · have d1 : decide (x < 8) = true := decide_eq_true (by omega)
        have px : 0 ≤ x := by omega
        have qx : x < 8 := by omega
        have ex := i64k (x := x + 1) rfl (by omega)
        have hix : (Instr.index 49 (.agg (u32s vv.l).toArray) (.int .i64 x)).run Try.prog wr = .ok (.int .u32 (rd vv.l x)) wr := run_index_arr Try.underlying49 Try.underlying47 (by kernel_rfl) rfl x px qx
        have HC2 := Aside0.mk c2
        clear hx c2
        go_wp2
        have HPi := Aside0.mk (show Hp w wr [.blk g_b (.cells (u8s (outI vv.l (4 * i + 0))).toArray 23 (0, 0)), .blk g_r (.cells (u8s (restI (szI M.length) lg 8)).toArray 67 (0, 0)), .blk g_x (.cells (dc true vv pp ((M ++ padI M.length).length : Int)).toArray 52 (0, 0)), .blk g_o (.cells (u8s (List.replicate 32 0)).toArray 23 (0, 0))] from HP.out)
        clear HP
        go_loopg [11, 57] 4 (fun kq v11 v57 w' => ∃ (k : Nat) (t : Int), v57 = .int .i64 t ∧ Aside0 (t = (k : Int)) ∧ Aside0 (kq + k = 4) ∧ Aside0 (Hp w w' [.blk g_b (.cells (u8s (outI vv.l (4 * i + k))).toArray 23 (0, 0)), .blk g_r (.cells (u8s (restI (szI M.length) lg 8)).toArray 67 (0, 0)), .blk g_x (.cells (dc true vv pp ((M ++ padI M.length).length : Int)).toArray 52 (0, 0)), .blk g_o (.cells (u8s (List.replicate 32 0)).toArray 23 (0, 0))]))
        case atStart => exact ⟨0, 0, rfl, ⟨rfl⟩, ⟨rfl⟩, HPi⟩
        clear HPi
        obtain ⟨k, t, rfl, HT, HJ, HP⟩ := hrel
        have ht := HT.out
        have hx := HX.out
        have hi8 := HC2.out
        by_cases c3 : k < 4
        · have d2 : decide (t < 4) = true := decide_eq_true (by omega)
          have et := i64k (x := t + 1) rfl (by omega)
          obtain ⟨y0, hy0⟩ : ∃ y, 4 * x = y := ⟨_, rfl⟩
          have e0 := i64k hy0 (by omega)
          obtain ⟨y1, hy1⟩ : ∃ y, y0 + t = y := ⟨_, rfl⟩
          have e1 := i64k hy1 (by omega)
          obtain ⟨y2, hy2⟩ : ∃ y, 8 * t = y := ⟨_, rfl⟩
          have e2 := i64k hy2 (by omega)
          obtain ⟨y3, hy3⟩ : ∃ y, 24 - y2 = y := ⟨_, rfl⟩
          have e3 := i64k hy3 (by omega)
          have p1 : 0 ≤ y1 := by omega
          have q1 : y1 < 32 := by omega
          have p3 : 0 ≤ y3 := by omega
          have dp3 := decide_eq_true p3
          have q3 : y3 ≤ 32 := by omega
          obtain ⟨sv, hsv⟩ : ∃ sv, shr .u32 (rd vv.l x) y3 = sv := ⟨_, rfl⟩
          have hsv_ : rd vv.l x / 2 ^ min y3.toNat 32 = sv := hsv
          have hsvz : y3 ≤ 32 → rd vv.l x / 2 ^ y3.toNat = sv := shr_small hsv
          have hl := outI_len vv.l (4 * i + k) (by omega)
          have hcw := cellL (HP.out.blk 0 rfl) y1 p1 (by rw [hl]; omega)
          have hfw := frozC (HP.out.blk 0 rfl) y1.toNat
          have HY := Aside0.mk (And.intro hy0 (And.intro hy1 (And.intro hy2 (And.intro hy3 (hsvz q3)))))
          have HB4 := Aside0.mk c3
          clear hy0 hy1 hy2 hy3 hsv ht hx hi8 hl c3
          go_wp2
          have hyn : y1.toNat = 4 * i + k := by have := HY.out.1; have := HY.out.2.1; have := HX.out; have := HT.out; omega
          have hyv : sv % 256 = byteI vv.l (4 * i + k) := by
            obtain ⟨_, _, z2, z3, z4⟩ := HY.out
            have h4 := HB4.out
            unfold byteI
            rw [← z4, show (4 * i + k) / 4 = i by omega, show (4 * i + k) % 4 = k by omega, ← HX.out, show y3.toNat = 24 - 8 * k by have := HT.out; omega]
          have HPn := Aside0.mk (HP.out.setCell 0 rfl (4 * i + k) (.int .u8 (byteI vv.l (4 * i + k))))
          rw [show (u8s (outI vv.l (4 * i + k))).toArray.setIfInBounds (4 * i + k) (.int .u8 (byteI vv.l (4 * i + k))) = (u8s (outI vv.l (4 * i + (k + 1)))).toArray from by rw [← Nat.add_assoc, ← outI_step vv.l (4 * i + k) (by have := HC2.out; have := HB4.out; omega)]; exact setL (k := .u8) _ _ _] at HPn
          rw [← hyv, ← hyn] at HPn
          go_roundg (gk - 1)
          case measure => have := HJ.out; have := HB4.out; omega
          case rel => exact ⟨k + 1, t + 1, by simp, ⟨by have := HT.out; omega⟩, ⟨by have := HJ.out; have := HB4.out; omega⟩, HPn⟩
        · have d2 : decide (t < 4) = false := decide_eq_false (by omega)
          obtain rfl : k = 4 := by have := HJ.out; omega
          clear ht hx hi8 c3 HT HJ
          go_wp2
          go_roundg (7 - i)
          case measure => have := HK.out; have := HC2.out; omega
          case rel => exact ⟨i + 1, x + 1, by simp, ⟨by have := HX.out; omega⟩, ⟨by have := HK.out; have := HC2.out; omega⟩, ⟨HP.out⟩⟩
      · have d1 : decide (x < 8) = false := decide_eq_false (by omega)
        obtain rfl : i = 8 := by have := HK.out; omega
        clear hx c2 HX HK
        go_wp2_with (first | ((with_reducible refine gate_dst (N := 73) rfl ?_); refine ev_load rfl 23 (.tmp 8) rfl g_b rfl (HP.out.blk 0 rfl) Try.underlying23 rfl (by rw [List.size_toArray, u8s_len, outI_len _ _ (by omega)]; kernel_rfl) ?_) | ((with_reducible refine gate_store (t := 23) (p := 2) rfl ?_); refine ev_store rfl 23 (.tmp 2) (.tmp 73) rfl rfl _ rfl (cells := (u8s (outI vv.l 32)).toArray) rfl (HP.out.blk 3 rfl) (by rw [List.size_toArray, u8s_len, outI_len _ _ (Nat.le_refl _)]; kernel_rfl) (by rw [List.size_toArray, List.size_toArray, u8s_len, u8s_len, outI_len _ _ (Nat.le_refl _)]; rfl) (one_u8 _) ?_; intro wn31 hg hgr; have HPn := Aside0.mk (HP.out.setB 3 rfl hgr hg); clear HP; have HP := HPn; clear HPn; clear hg hgr))
        refine bodyPost_ret (results_cell_row rfl _ _ g_o 23 (u8s (outI vv.l 32)).toArray (0, 0) _ rfl (HP.out.blk 3 rfl) Try.underlying23 rfl (by rw [List.size_toArray, u8s_len, outI_len _ _ (Nat.le_refl _)]; kernel_rfl)) rfl ?_
        exact ⟨by rw [show sha M = outI vv.l 32 from by unfold sha; rw [HD2.st]], HP.out.below⟩
end Go.Proofs.Ytpnjbogpooejhaa.H
