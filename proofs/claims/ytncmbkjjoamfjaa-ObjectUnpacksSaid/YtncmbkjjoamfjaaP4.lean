import Derived.Test.YtncmbkjjoamfjaaO6
import Derived.Test.YtncmbkjjoamfjaaP3
namespace Go.Proofs.Ytncmbkjjoamfjaa.H
open Go.RowKit Go.Proofs.Ytncmbkjjoamfjaa.XH Go.Proofs.YtncmbkjjoamfjaaW.PrintWords Go.Proofs.YtncmbkjjoamfjaaW.PrintLast Go.Proofs.YtncmbkjjoamfjaaW.PrintMore Go.Proofs.YtncmbkjjoamfjaaXe Go.Proofs.YtncmbkjjoamfjaaXs
set_option linter.unusedVariables false
set_option linter.unusedSimpArgs false
attribute [local go_sem ↓] Go.wp_at_zero Go.wp_at_succ
attribute [local go_sem] valUpon
attribute [local go_sem ↓ high] bn29
attribute [local go_sem high] BN29.z
def told8n (w : World) (L : List Int) (e : Ending) (w' : World) : Prop := ∃ (g : Nat) (l : List Int), e = .returned (.tuple #[.slice (some ⟨g, 0, none⟩) L.length l.length, .int .i64 0]) ∧ l.take L.length = L ∧ L.length ≤ l.length ∧ l.length ≤ 9223372036854775807 ∧ w.heap.size ≤ g ∧ w'.heap[g]? = some (.cells (u8s l).toArray 5 (0, 0)) ∧ Below w.heap.size w w'
set_option maxHeartbeats 8000000 in
set_option maxRecDepth 100000 in
theorem c_pack8 (kind : Int) (A : Option Addr) (c : Nat) (b : List Int) (w : World) (hr : Kd.C (Kd.int .u8) w A b.length b) (hc : b.length ≤ c) (hm : b.length ≤ 1000000) (hB : Bytes b) (hk0 : chkO kind b.length = 0) :
    Calls Try.prog 10 #[.int .i64 kind, .slice A b.length c] w (told8n w (packO kind b)) := by
  have HR := Aside0.mk hr
  have HC := Aside0.mk hc
  have HM := Aside0.mk hm
  have CI := Aside0.mk (fun w hr => c_id kind A c b w hr hc hm hB)
  obtain ⟨ck, hck⟩ : ∃ z, chkO kind b.length = z := ⟨_, rfl⟩
  have HCK := Aside0.mk hck
  rw [hck] at CI
  rw [hck] at hk0
  have HP := Aside0.mk (Hp.start w)
  clear hr hc hm hB hck
  by_cases h0 : ck = 0
  · subst h0
    rw [show idO kind b = sha b from by unfold idO; rw [if_pos HCK.out]] at CI
    have hbl : b.length ≤ 65536 := by
      have h := HCK.out
      unfold chkO at h
      split at h
      · omega
      · split at h <;> omega
    have hkd : 1 ≤ kind ∧ kind ≤ 9 := by
      have h := HCK.out
      unfold chkO at h
      split at h <;> omega
    have ek : IntKind.u8.wrap kind = kind % 256 := IntKind.wrap_u8 _
    have HBL := Aside0.mk hbl
    clear hbl hkd
    go_enter Try.func10, Try.ntmps10
    go_wp2_with fail
    (with_reducible refine (CI.out _ HR.out).mono ?_); rintro e wn1 ⟨rfl, hb⟩; have HPn := Aside0.mk (HP.out.call hb); clear HP; have HP := HPn; clear HPn; clear hb
    go_wp2_with (first | ((with_reducible refine gate_dst (N := 6) rfl ?_); refine ev_alloc rfl 29 rfl (.agg (u8s z32).toArray) (by kernel_rfl) ?_; intro g_i wn2 hge hg hb; have HPn := Aside0.mk (HP.out.newB hb hg hge); clear HP; have HP := HPn; clear HPn; clear hge hg hb) | ((with_reducible refine gate_store (t := 29) (p := 6) rfl ?_); refine ev_store rfl 29 (.tmp 6) (.tmp 15) rfl rfl _ rfl (cells := (u8s (sha b)).toArray) rfl (HP.out.blk 0 rfl) (by rw [List.size_toArray, u8s_len, sha_len']; kernel_rfl) (show (u8s z32).toArray.size = (u8s (sha b)).toArray.size from by rw [List.size_toArray, List.size_toArray, u8s_len, u8s_len, z32_len, sha_len']) (one_u8 _) ?_; intro wn3 hg hgr; have HPn := Aside0.mk (HP.out.setB 0 rfl hgr hg); clear HP; have HP := HPn; clear HPn; clear hg hgr) | ((with_reducible refine gate_dst (N := 8) rfl ?_); refine ev_alloc rfl 45 rfl (.agg (u8s (List.replicate 37 0)).toArray) (by kernel_rfl) ?_; intro g_h wn4 hge hg hb; have HPn := Aside0.mk (HP.out.newB hb hg hge); clear HP; have HP := HPn; clear HPn; clear hge hg hb; have hc0 := blk_cell (HP.out.blk 0 rfl) 0; have hf0 := frozC (HP.out.blk 0 rfl) 0))
    have HP1 := Aside0.mk (show Hp w _ [.blk g_h (.cells (u8s (hdI kind b 0)).toArray 45 (0, 0)), .blk g_i (.cells (u8s (sha b)).toArray 29 (0, 0))] from HP.out.setCell 0 rfl 0 (.int .u8 (kind % 256)))
    clear HP hc0 hf0
    go_loopg [9, 23] 4 (fun kq v9 v23 w' => ∃ (i : Nat) (x : Int), v23 = .int .i64 x ∧ Aside0 (x = (i : Int)) ∧ Aside0 (kq + i = 4) ∧ Aside0 (Hp w w' [.blk g_h (.cells (u8s (hdI kind b i)).toArray 45 (0, 0)), .blk g_i (.cells (u8s (sha b)).toArray 29 (0, 0))]))
    case atStart => exact ⟨0, 0, rfl, ⟨rfl⟩, ⟨rfl⟩, HP1⟩
    clear HP1
    obtain ⟨i, x, rfl, HX, HK, HP⟩ := hrel
    have hx := HX.out
    by_cases c1 : i < 4
    · have d1 : decide (x < 4) = true := decide_eq_true (by omega)
      have ex := i64k (x := x + 1) rfl (by omega)
      obtain ⟨y1, hy1⟩ : ∃ y, 1 + x = y := ⟨_, rfl⟩
      have e1 := i64k hy1 (by omega)
      obtain ⟨y2, hy2⟩ : ∃ y, 8 * x = y := ⟨_, rfl⟩
      have e2 := i64k hy2 (by omega)
      obtain ⟨y3, hy3⟩ : ∃ y, 24 - y2 = y := ⟨_, rfl⟩
      have e3 := i64k hy3 (by omega)
      have p1 : 0 ≤ y1 := by omega
      have q1 : y1 < 37 := by omega
      have p3 : 0 ≤ y3 := by omega
      have dp3 := decide_eq_true p3
      have q3 : y3 ≤ 64 := by omega
      obtain ⟨sv, hsv⟩ : ∃ sv, shr .i64 (b.length : Int) y3 = sv := ⟨_, rfl⟩
      have hsv_ : (b.length : Int) / 2 ^ min y3.toNat 64 = sv := hsv
      have hsvz : y3 ≤ 64 → (b.length : Int) / 2 ^ y3.toNat = sv := shr_small hsv
      have hcw := cellL (HP.out.blk 0 rfl) y1 p1 (by rw [hdI_len]; omega)
      have hfw := frozC (HP.out.blk 0 rfl) y1.toNat
      have HY := Aside0.mk (And.intro hy1 (And.intro hy2 (And.intro hy3 (hsvz q3))))
      have HC1 := Aside0.mk c1
      clear hy1 hy2 hy3 hsv hx c1
      go_wp2
      have hyn : y1.toNat = 1 + i := by have := HY.out.1; have := HX.out; omega
      have hyv : sv % 256 = (b.length : Int) / 2 ^ (24 - 8 * i) % 256 := by
        obtain ⟨_, z2, z3, z4⟩ := HY.out
        rw [← z4, show y3.toNat = 24 - 8 * i by have := HX.out; omega]
      have HPn := Aside0.mk (HP.out.setCell 0 rfl (1 + i) (.int .u8 ((b.length : Int) / 2 ^ (24 - 8 * i) % 256)))
      rw [show (u8s (hdI kind b i)).toArray.setIfInBounds (1 + i) (.int .u8 ((b.length : Int) / 2 ^ (24 - 8 * i) % 256)) = (u8s (hdI kind b (i + 1))).toArray from setL (k := .u8) _ _ _] at HPn
      rw [← hyn, ← hyv] at HPn
      go_roundg (gk - 1)
      case measure => have := HK.out; have := HC1.out; omega
      case rel => exact ⟨i + 1, x + 1, by simp, ⟨by have := HX.out; omega⟩, ⟨by have := HK.out; have := HC1.out; omega⟩, HPn⟩
    · have d1 : decide (x < 4) = false := decide_eq_false (by omega)
      obtain rfl : i = 4 := by have := HK.out; omega
      clear hx c1 HX HK
      obtain ⟨wd, hwd⟩ : ∃ z_ : World, wr.drew = z_ := ⟨_, rfl⟩
      have HPd := Aside0.mk (HP.out.drewN 1)
      rw [← World.drew_is_drewN, hwd] at HPd
      clear HP
      have hcut1 := run_cut_arr (P := Try.prog) Try.underlying45 (by kernel_rfl) g_h 0 5 (by decide) (by decide) wd
      have hcut2 := run_cut_all (P := Try.prog) Try.underlying29 (by kernel_rfl) (by decide) g_i 0 wd
      have HSL := Aside0.mk (sha_len' b)
      have HCI := Aside0.mk (show Kd.C (Kd.int .u8) wd (some ⟨g_i, 0, none⟩) 32 (sha b) from by have h := C_blkW (k := .u8) (HPd.out.blk 1 rfl) (by rw [sha_len']; decide); rwa [sha_len'] at h)
      have HCS := Aside0.mk (show u8s (sha b) = ((sha b).take 32).map (Value.int .u8) from by rw [List.take_of_length_le (Nat.le_of_eq (sha_len' b))]; rfl)
      have HFT := Aside0.mk (show 5 + (u8s (sha b)).length ≤ (u8s (hdI kind b 4)).length from by rw [u8s_len, u8s_len, sha_len', hdI_len]; decide)
      have HNN := Aside0.mk (show (u8s (sha b)).length = 32 from by rw [u8s_len, sha_len'])
      simp only [show (5 : Int).toNat = 5 from rfl, Nat.zero_add, show 37 - 5 = 32 from rfl] at hcut1
      go_wp2_with fail
      refine still_mix 2 [2] (by kernel_rfl) (by kernel_rfl) hwd (fun N _ _ _ _ h => by cases N <;> exact h) ?_
      simp only [List.take_succ_cons, List.take_zero, List.drop_succ_cons, List.drop_zero]
      repeat (refine wpVal_step (fun K hK => ?_); go_simp; refine hK _ ?_; clear hK K)
      refine wpVal_nil ?_
      refine ev_copy HPd.out 0 rfl rfl (.tmp 37) (.tmp 38) 22 22 rfl 5 Try.underlying22 (by kernel_rfl) 32 32 rfl rfl HSL.out HCI.out HCS.out HFT.out HNN.out ?_
      intro w2 hp
      rw [splice_map, hd_full] at hp
      have HP := Aside0.mk (show Hp w w2 [.blk g_h (.cells (u8s (headO kind b)).toArray 45 (0, 0)), .blk g_i (.cells (u8s (sha b)).toArray 29 (0, 0))] from hp)
      clear hp HPd hcut1 hcut2 HCI HCS HFT HNN
      have hcut3 := run_cut_all (P := Try.prog) Try.underlying45 (by kernel_rfl) (by decide) g_h 0 w2
      go_wp2_with fail
      have HPn := Aside0.mk (HP.out.alloc (.cells #[.slice (some ⟨g_h, 0, none⟩) 37 37, .slice A b.length c] 22 (0, 0)))
      clear HP hcut3
      have HP := HPn
      clear HPn
      obtain ⟨L, hL⟩ : ∃ z, [headO kind b, b].flatten = z := ⟨_, rfl⟩
      have hLL : L.length = 37 + b.length := by rw [← hL]; simp [headO_len]
      have hLe : L = headO kind b ++ b := by rw [← hL]; simp
      have hbl := HBL.out
      have HCC := Aside0.mk (c_concat8 (some ⟨w2.heap.size, 0, none⟩) 2 [headO kind b, b] _ (C_sls (e := 5) (vs := [.slice (some ⟨g_h, 0, none⟩) 37 37, .slice A b.length c]) (HP.out.blk 0 rfl) rfl (by simp) (fun j v d hv hd => by
        match j with
        | 0 =>
          simp at hv hd
          subst hv hd
          have h := C_blkW (k := .u8) (HP.out.blk 1 rfl) (by rw [headO_len]; decide)
          exact ⟨some ⟨g_h, 0, none⟩, 37, by rw [headO_len], by rw [headO_len]; exact Nat.le_refl _, h⟩
        | 1 =>
          simp at hv hd
          subst hv hd
          exact ⟨A, c, rfl, HC.out, Kd.C_below HR.out HP.out.below⟩
        | j + 2 => simp at hv)) (Nat.le_refl _) (by rw [hL]; omega) (by rw [hL]; omega))
      rw [hL] at HCC
      have HLL := Aside0.mk hLL
      have HLE := Aside0.mk hLe
      clear hL hLL hLe hbl
      refine HCC.out.mono ?_; rintro e w3 ⟨g10, l10, rfl, hta, htl, htm, hge, hg, hb⟩
      have HPn := Aside0.mk (HP.out.newB hb hg hge)
      have HL10 := Aside0.mk (And.intro hta (And.intro htl htm))
      clear HP HCC hb hg hge hta htl htm
      have HP := HPn
      clear HPn
      obtain ⟨sc, hsc⟩ : ∃ z, secO (b.length : Int) = z := ⟨_, rfl⟩
      have hscv : sc = ((b.length : Int) + 100) / 64 := by rw [← hsc]; unfold secO; have := HBL.out; rw [if_neg (by omega)]
      have CSC := Aside0.mk (fun w => object_Sectors.calls 5 (b.length : Int) sc w (by rw [sectors_f, hsc]))
      obtain ⟨m1, hm1⟩ : ∃ z, sc * 64 = z := ⟨_, rfl⟩
      have hbl := HBL.out
      have hll := HLL.out
      have em1 := i64k hm1 (by omega)
      obtain ⟨m2, hm2⟩ : ∃ z, m1 - (L.length : Int) = z := ⟨_, rfl⟩
      have em2 := i64k hm2 (by omega)
      have HM2 := Aside0.mk (show 0 ≤ m2 ∧ m2 < 64 by omega)
      have HM3 := Aside0.mk (show L.length + m2.toNat ≤ 100000000000000 by omega)
      have HM4 := Aside0.mk (show ((m2.toNat : Nat) : Int) = m2 by omega)
      have HPK := Aside0.mk (show L ++ List.replicate m2.toNat 0 = packO kind b by
        unfold packO
        rw [HLE.out, List.append_assoc, hsc]
        congr 3
        omega)
      clear hsc hscv hm1 hm2 hbl hll
      go_wp2_with (first | (go_at_call 15; refine (CSC.out _).mono ?_; rintro e w_ ⟨rfl, n_, rfl⟩; have HPn := Aside0.mk (HP.out.drewN n_); clear HP; have HP := HPn; clear HPn) | ((with_reducible refine gate_builtin (b := .append) (xs := #[.tmp 44, .tmp 51]) rfl ?_); obtain ⟨wn, gn, ln, hrun, hn1, hn2, hn3, hpn⟩ := zeros8 HP.out 0 g10 L.length l10 rfl HL10.out.2.1 m2.toNat HM3.out 22 .i64; rw [HM4.out] at hrun; rw [HL10.out.1, HPK.out] at hn2; have hln : L.length + m2.toNat = (packO kind b).length := (by rw [← HPK.out, List.length_append, List.length_replicate]); rw [hln] at hrun hn1 hn2; have HPn := Aside0.mk hpn; have HLn := Aside0.mk (And.intro hn2 (And.intro hn1 (hn3 HL10.out.2.2))); clear HP hpn hn1 hn2 hn3 hln; refine ev_app rfl (.tmp 44) (.tmp 51) 22 3 rfl rfl rfl hrun ?_; clear hrun))
      refine bodyPost_ret (results_two_tmps rfl _ _ rfl rfl) rfl ?_
      exact ⟨gn, ln, rfl, HLn.out.1, HLn.out.2.1, HLn.out.2.2, HPn.out.blk_ge 0 rfl, HPn.out.blk 0 rfl, HPn.out.below⟩
  · exact absurd hk0 h0
set_option maxHeartbeats 8000000 in
set_option maxRecDepth 100000 in
theorem c_over0 (A : Option Addr) (w : World) : Calls Try.prog 17 #[.slice A 0 0] w fun e w' => e = .returned (.tuple #[]) ∧ Below w.heap.size w w' := by
  have HP := Aside0.mk (Hp.start w)
  go_enter Try.func17, Try.ntmps17
  go_wp2_with fail
  go_loopg [3] 1 (fun kq v3 w' => v3 = .int .i64 0 ∧ Aside0 (Hp w w' []))
  case atStart => exact ⟨rfl, HP⟩
  clear HP
  obtain ⟨rfl, HP⟩ := hrel
  go_wp2
  exact bodyPost_end (v := .tuple #[]) (by simp [results, Try.results17, go_sem]) rfl ⟨rfl, HP.out.below⟩
end Go.Proofs.Ytncmbkjjoamfjaa.H
