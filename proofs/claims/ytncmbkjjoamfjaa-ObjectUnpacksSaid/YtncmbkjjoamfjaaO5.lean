import Derived.Test.YtncmbkjjoamfjaaO4
import Derived.WalkMore
import Derived.Lib.Bytes
namespace Go.Proofs.Ytncmbkjjoamfjaa.H
open Go.RowKit Go.Proofs.Ytncmbkjjoamfjaa.XH Go.Proofs.YtncmbkjjoamfjaaW.PrintWords Go.Proofs.YtncmbkjjoamfjaaW.PrintLast Go.Proofs.YtncmbkjjoamfjaaW.PrintMore Go.Proofs.YtncmbkjjoamfjaaXe Go.Proofs.YtncmbkjjoamfjaaXs
set_option linter.unusedVariables false
set_option linter.unusedSimpArgs false
attribute [local go_sem ↓] Go.wp_at_zero Go.wp_at_succ
attribute [local go_sem] valUpon
attribute [local go_sem ↓ high] bn29
attribute [local go_sem high] BN29.z
theorem secO_le (n : Int) : secO n ≤ 1100 := by
  unfold secO
  split
  · omega
  · omega
theorem packO_le (k : Int) (b : List Int) (h : b.length ≤ 1000000) : (packO k b).length ≤ 10000000 := by
  have := secO_le (b.length : Int)
  unfold packO
  rw [List.length_append, List.length_append, headO_len, List.length_replicate]
  omega
theorem packO_byte (k : Int) (b : List Int) (hb : Bytes b) : Bytes (packO k b) := by
  intro x hx
  unfold packO headO lenB at hx
  rcases List.mem_append.1 hx with h | h
  · rcases List.mem_cons.1 h with rfl | h
    · omega
    · rcases List.mem_append.1 h with h | h
      · simp only [List.mem_cons, List.not_mem_nil, or_false] at h
        rcases h with rfl | rfl | rfl | rfl <;> omega
      · exact sha_byteB b x h
  · rcases List.mem_append.1 h with h | h
    · exact hb x h
    · rw [List.mem_replicate] at h; omega
set_option maxHeartbeats 8000000 in
set_option maxRecDepth 100000 in
theorem c_runpack (A : Option Addr) (c : Nat) (b : List Int) (w : World) (hr : Kd.C (Kd.int .u8) w A b.length b) (hc : b.length ≤ c) (hm : b.length ≤ 1000000) (hB : Bytes b) :
    Calls Try.prog 20 #[.slice A b.length c] w (unpPost b w) := by
  have HR := Aside0.mk hr
  have HC := Aside0.mk hc
  have HM := Aside0.mk hm
  have HBY := Aside0.mk hB
  have HP := Aside0.mk (Hp.start w)
  obtain ⟨r, hr0⟩ : ∃ z : Int, (b.length : Int) % 64 = z := ⟨_, rfl⟩
  have er : Int.tmod (b.length : Int) 64 = r := by rw [Int.tmod_eq_emod_of_nonneg (by omega)]; exact hr0
  clear hr
  by_cases a1 : b.length < 64
  · have d1 : decide ((b.length : Int) < 64) = true := decide_eq_true (by omega)
    have HE := Aside0.mk (show unpE b = 4 from by unfold unpE; rw [if_pos (.inl a1)])
    clear hc hm hB hr0 a1
    go_enter Try.func20, Try.ntmps20
    go_wp2
    try rw [Exit.noGoto_ret]
    refine bodyPost_ret (results_three rfl _ _ rfl rfl rfl) rfl ?_
    exact unp_err (by exact HE.out) (by decide) HP.out.below
  have d1 : decide ((b.length : Int) < 64) = false := decide_eq_false (by omega)
  by_cases a2 : r = 0
  rotate_left
  · have d2 : (r != 0) = true := bne_iff_ne.2 a2
    have HE := Aside0.mk (show unpE b = 4 from by unfold unpE; rw [if_pos (.inr (by omega))])
    clear hc hm hB hr0 a1 a2
    go_enter Try.func20, Try.ntmps20
    go_wp2
    try rw [Exit.noGoto_ret]
    refine bodyPost_ret (results_three rfl _ _ rfl rfl rfl) rfl ?_
    exact unp_err (by exact HE.out) (by decide) HP.out.below
  have d2 : (r != 0) = false := bne_eq_false_iff_eq.2 a2
  have HL := Aside0.mk (show 64 ≤ b.length ∧ b.length % 64 = 0 by omega)
  obtain ⟨ad, rfl, hc0⟩ := Kd.at_int HR.out 0 (by decide) (by omega)
  have hc0' : w.cell? ad = some (.int .u8 (rd b 0)) := by have h := hc0; rwa [show (0 : Int).toNat = 0 from rfl, show ad.add 0 = ad from by simp [Addr.add]] at h
  obtain ⟨k, hk⟩ : ∃ z, rd b 0 = z := ⟨_, rfl⟩
  rw [hk] at hc0 hc0'
  have hkb := rdB hB 0
  rw [hk] at hkb
  have ek := i64k (x := k) rfl (by omega)
  have q00 : (0 : Int) < (b.length : Int) := by omega
  have q01 : 0 < b.length := by omega
  have q02 : b ≠ [] := by intro h; rw [h] at q01; simp at q01
  have qn : ∀ q : Nat, q < 5 → q < b.length := fun q h => by omega
  have q10 : (1 : Int) < (b.length : Int) := by omega
  have q20 : (2 : Int) < (b.length : Int) := by omega
  have q30 : (3 : Int) < (b.length : Int) := by omega
  have q40 : (4 : Int) < (b.length : Int) := by omega
  have q11 : 1 < b.length := by omega
  have q21 : 2 < b.length := by omega
  have q31 : 3 < b.length := by omega
  have q41 : 4 < b.length := by omega
  have HK := Aside0.mk hk
  have HKB := Aside0.mk hkb
  obtain ⟨bq1, hd1⟩ : ∃ z, rd b 1 = z := ⟨_, rfl⟩
  have hdb1 := rdB hB 1
  rw [hd1] at hdb1
  have ed1 := i64k (x := bq1) rfl (by omega)
  obtain ⟨bq2, hd2⟩ : ∃ z, rd b 2 = z := ⟨_, rfl⟩
  have hdb2 := rdB hB 2
  rw [hd2] at hdb2
  have ed2 := i64k (x := bq2) rfl (by omega)
  obtain ⟨bq3, hd3⟩ : ∃ z, rd b 3 = z := ⟨_, rfl⟩
  have hdb3 := rdB hB 3
  rw [hd3] at hdb3
  have ed3 := i64k (x := bq3) rfl (by omega)
  obtain ⟨bq4, hd4⟩ : ∃ z, rd b 4 = z := ⟨_, rfl⟩
  have hdb4 := rdB hB 4
  rw [hd4] at hdb4
  have ed4 := i64k (x := bq4) rfl (by omega)
  obtain ⟨p1, hp1⟩ : ∃ z, bq1 * 16777216 = z := ⟨_, rfl⟩
  obtain ⟨p2, hp2⟩ : ∃ z, bq2 * 65536 = z := ⟨_, rfl⟩
  obtain ⟨p3, hp3⟩ : ∃ z, bq3 * 256 = z := ⟨_, rfl⟩
  have w1 := i64k (x := p1) rfl (by omega)
  have w2 := i64k (x := p2) rfl (by omega)
  have w3 := i64k (x := p3) rfl (by omega)
  obtain ⟨p12, hp12⟩ : ∃ z, p1 + p2 = z := ⟨_, rfl⟩
  obtain ⟨p123, hp123⟩ : ∃ z, p12 + p3 = z := ⟨_, rfl⟩
  obtain ⟨s, hs⟩ : ∃ z, p123 + bq4 = z := ⟨_, rfl⟩
  have e12 := i64k (x := p12) rfl (by omega)
  have e123 := i64k (x := p123) rfl (by omega)
  have es := i64k (x := s) rfl (by omega)
  have HN := Aside0.mk (show numO b = s by unfold numO; rw [hd1, hd2, hd3, hd4]; omega)
  have HSB := Aside0.mk (show 0 ≤ s ∧ s < 4294967296 by omega)
  have HD := Aside0.mk (And.intro hd1 (And.intro hd2 (And.intro hd3 hd4)))
  obtain ⟨wd, hwd⟩ : ∃ z_ : World, w.drew = z_ := ⟨_, rfl⟩
  have HPd := Aside0.mk (HP.out.drewN 1)
  rw [← World.drew_is_drewN, hwd] at HPd
  obtain ⟨ad1, ea1, hq1⟩ := Kd.at_int (Kd.C_below HR.out HPd.out.below) 1 (by decide) (by omega)
  cases ea1
  rw [hd1, show ((1 : Int)).toNat = 1 from rfl, show ad.add 1 = ⟨ad.block, ad.off + 1, none⟩ from by simp [Addr.add]] at hq1
  obtain ⟨ad2, ea2, hq2⟩ := Kd.at_int (Kd.C_below HR.out HPd.out.below) 2 (by decide) (by omega)
  cases ea2
  rw [hd2, show ((2 : Int)).toNat = 2 from rfl, show ad.add 2 = ⟨ad.block, ad.off + 2, none⟩ from by simp [Addr.add]] at hq2
  obtain ⟨ad3, ea3, hq3⟩ := Kd.at_int (Kd.C_below HR.out HPd.out.below) 3 (by decide) (by omega)
  cases ea3
  rw [hd3, show ((3 : Int)).toNat = 3 from rfl, show ad.add 3 = ⟨ad.block, ad.off + 3, none⟩ from by simp [Addr.add]] at hq3
  obtain ⟨ad4, ea4, hq4⟩ := Kd.at_int (Kd.C_below HR.out HPd.out.below) 4 (by decide) (by omega)
  cases ea4
  rw [hd4, show ((4 : Int)).toNat = 4 from rfl, show ad.add 4 = ⟨ad.block, ad.off + 4, none⟩ from by simp [Addr.add]] at hq4
  clear hc hm hB hr0 a1 a2 hk hkb qn hd1 hd2 hd3 hd4 hdb1 hdb2 hdb3 hdb4
  go_enter Try.func20, Try.ntmps20
  go_wp2
  refine still_mix 22 [22] (by kernel_rfl) (by kernel_rfl) hwd (fun N _ _ _ _ h => by cases N <;> exact h) ?_
  simp only [List.take_succ_cons, List.take_zero, List.drop_succ_cons, List.drop_zero]
  repeat (refine wpVal_step (fun K hK => ?_); go_simp; refine hK _ ?_; clear hK K)
  refine wpVal_nil ?_
  clear HP
  have HP := HPd
  clear HPd q00 q01 q02 q10 q20 q30 q40 q11 q21 q31 q41 ed1 ed2 ed3 ed4 hp1 hp2 hp3 w1 w2 w3 hp12 hp123 hs e12 e123 es hq1 hq2 hq3 hq4 hwd d1 d2 er hc0 hc0'
  have hsr := HSB.out
  have hkb := HKB.out
  have hl := HL.out
  have HE0 := Aside0.mk (show ¬ (b.length < 64 ∨ b.length % 64 ≠ 0) by omega)
  by_cases k1 : k < 1
  · have d2 : decide (k < 1) = true := decide_eq_true k1
    have HE := Aside0.mk (show unpE b = 2 from by unfold unpE; rw [if_neg HE0.out, if_pos (.inl (by rw [HK.out]; exact k1))])
    clear hsr hkb hl k1
    go_wp2
    try rw [Exit.noGoto_ret]
    refine bodyPost_ret (results_three rfl _ _ rfl rfl rfl) rfl ?_
    exact unp_err (by exact HE.out) (by decide) HP.out.below
  have d2 : decide (k < 1) = false := decide_eq_false k1
  by_cases k9 : 9 < k
  · have d3 : decide (k > 9) = true := decide_eq_true k9
    have HE := Aside0.mk (show unpE b = 2 from by unfold unpE; rw [if_neg HE0.out, if_pos (.inr (by rw [HK.out]; exact k9))])
    clear hsr hkb hl k1 k9
    go_wp2
    try rw [Exit.noGoto_ret]
    refine bodyPost_ret (results_three rfl _ _ rfl rfl rfl) rfl ?_
    exact unp_err (by exact HE.out) (by decide) HP.out.below
  have d3 : decide (k > 9) = false := decide_eq_false k9
  have HE1 := Aside0.mk (show ¬ (rd b 0 < 1 ∨ 9 < rd b 0) by rw [HK.out]; omega)
  by_cases n6 : 65536 < s
  · have d4 : decide (s > 65536) = true := decide_eq_true n6
    have HE := Aside0.mk (show unpE b = 3 from by unfold unpE; rw [if_neg HE0.out, if_neg HE1.out, if_pos (by rw [HN.out]; exact n6)])
    clear hsr hkb hl k1 k9 n6
    go_wp2
    try rw [Exit.noGoto_ret]
    refine bodyPost_ret (results_three rfl _ _ rfl rfl rfl) rfl ?_
    exact unp_err (by exact HE.out) (by decide) HP.out.below
  have d4 : decide (s > 65536) = false := decide_eq_false n6
  obtain ⟨sc, hsc⟩ : ∃ z, secO s = z := ⟨_, rfl⟩
  have hscv : sc = (s + 100) / 64 := by rw [← hsc]; unfold secO; rw [if_neg (by omega)]
  have CSC := Aside0.mk (fun w => retconref15_Sectors.calls 5 s sc w (by rw [rsectors_f, hsc]))
  obtain ⟨m1, hm1⟩ : ∃ z, sc * 64 = z := ⟨_, rfl⟩
  have em1 := i64k hm1 (by omega)
  have HE2 := Aside0.mk (show ¬ 65536 < numO b by rw [HN.out]; exact n6)
  by_cases e64 : m1 = (b.length : Int)
  rotate_left
  · have d5 : (m1 != (b.length : Int)) = true := bne_iff_ne.2 e64
    have HE := Aside0.mk (show unpE b = 4 from by unfold unpE; rw [if_neg HE0.out, if_neg HE1.out, if_neg HE2.out, if_pos (by rw [HN.out, hsc, hm1]; exact e64)])
    clear hsr hkb hl k1 k9 n6 hsc hscv hm1 e64
    go_wp2_with (go_at_call 16; refine (CSC.out _).mono ?_; rintro e w_ ⟨rfl, n_, rfl⟩; have HPn := Aside0.mk (HP.out.drewN n_); clear HP; have HP := HPn; clear HPn)
    try rw [Exit.noGoto_ret]
    refine bodyPost_ret (results_three rfl _ _ rfl rfl rfl) rfl ?_
    exact unp_err (by exact HE.out) (by decide) HP.out.below
  have d5 : (m1 != (b.length : Int)) = false := bne_eq_false_iff_eq.2 e64
  have HE3 := Aside0.mk (show ¬ secO (numO b) * 64 ≠ (b.length : Int) by rw [HN.out, hsc, hm1]; exact fun h => h e64)
  obtain ⟨n, hn⟩ : ∃ n : Nat, s = (n : Int) := ⟨s.toNat, by omega⟩
  have hN2 := HN.out
  obtain ⟨y, hy⟩ : ∃ z, 37 + s = z := ⟨_, rfl⟩
  have ey := i64k hy (by omega)
  have hle : 37 + n ≤ b.length := by omega
  obtain ⟨A37, m37, hm37, hl37, hlc37, hrun37, hC37⟩ := mid8 (some ad) c b 37 (37 + n) (by omega) hle HC.out 37 y rfl (by omega)
  have hbo : bodyO b = m37 := by unfold bodyO; rw [hN2, hn, Int.toNat_natCast]; exact hm37
  have hB37 : Bytes m37 := fun x hx => HBY.out x (by rw [← hm37] at hx; exact List.mem_of_mem_take (List.mem_of_mem_drop hx))
  have hchk : chkO k m37.length = 0 := by
    unfold chkO
    rw [if_neg (by omega), if_neg (by omega)]
  obtain ⟨L, hL⟩ : ∃ z, packO k m37 = z := ⟨_, rfl⟩
  have hpr : packR k m37 = L := by unfold packR; rw [if_pos hchk]; exact hL
  have CP := Aside0.mk (fun (w : World) h => c_rpack k A37 (c - 37) m37 w h hlc37 (by omega) hB37)
  rw [hchk, hpr] at CP
  have hLB : Bytes L := by rw [← hL]; exact packO_byte k m37 hB37
  have heq := eq_beq L b hLB HBY.out
  obtain ⟨eb, heb⟩ : ∃ z, decide (L = b) = z := ⟨_, rfl⟩
  rw [heb] at heq
  have hne : ((strOfNums L).toList != (strOfNums b).toList) = !eb := by rw [← heq]; rfl
  have HE11 := Aside0.mk (show eb = false → unpE b = 11 from fun h => by
    unfold unpE
    rw [if_neg HE0.out, if_neg HE1.out, if_neg HE2.out, if_neg HE3.out, if_neg]
    rw [HK.out, hbo, hL]
    exact of_decide_eq_false (heb.trans h))
  have HE00 := Aside0.mk (show eb = true → unpE b = 0 from fun h => by
    unfold unpE
    rw [if_neg HE0.out, if_neg HE1.out, if_neg HE2.out, if_neg HE3.out, if_pos]
    rw [HK.out, hbo, hL]
    exact of_decide_eq_true (heb.trans h))
  have H37 := Aside0.mk (And.intro hC37 (And.intro hlc37 (show m37.length ≤ 1000000 by have := HM.out; omega)))
  have HBO := Aside0.mk hbo
  have hcvb := fun w h => Kd.C_string (P := Try.prog) (w := w) (c := c) Try.underlying22 Try.underlying5 Try.underlying9 (show Kd.C (Kd.int .u8) w (some ad) b.length b from h)
  have HCVB := Aside0.mk hcvb
  have HLL := Aside0.mk (show L.length ≤ 10000000 by rw [← hL]; exact packO_le k m37 (by have := HM.out; omega))
  clear hsr hkb hl k1 k9 n6 hsc hscv hm1 e64 hn hN2 hy hle hm37 hl37 hlc37 hC37 hbo hB37 hchk hL hpr hLB heb hcvb
  go_wp2_with (go_at_call 16; refine (CSC.out _).mono ?_; rintro e w_ ⟨rfl, n_, rfl⟩; have HPn := Aside0.mk (HP.out.drewN n_); clear HP; have HP := HPn; clear HPn)
  obtain ⟨wn1, hwn1⟩ : ∃ z, wd.drewN n_ = z := ⟨_, rfl⟩
  rw [hwn1] at HP
  rw [hwn1]
  clear hwn1
  refine (CP.out _ (H37.out.1 _ (Kd.C_below HR.out HP.out.below))).mono ?_; rintro e wn2 ⟨v7, rfl, ho, hb⟩
  have HPn := Aside0.mk (HP.out.newR hb ho)
  clear HP ho hb
  have HP := HPn
  clear HPn
  obtain ⟨A7, c7, rfl⟩ := Kd.R_slice (HP.out.row 0 rfl)
  have hcv1 := Kd.C_string (P := Try.prog) (w := wn2) (c := c7) Try.underlying22 Try.underlying5 Try.underlying9 (Kd.R_reads' (HP.out.row 0 rfl)).2.2
  have hcv2 := HCVB.out wn2 (Kd.C_below HR.out HP.out.below)
  cases eb with
  | false =>
    have HE := Aside0.mk (HE11.out rfl)
    go_wp2
    try rw [Exit.noGoto_ret]
    refine bodyPost_ret (results_three rfl _ _ rfl rfl rfl) rfl ?_
    exact unp_err (by exact HE.out) (by decide) HP.out.below
  | true =>
    have HE := Aside0.mk (HE00.out rfl)
    clear d2 d3 d4 d5 em1
    go_wp2_with (first | ((with_reducible refine gate_dst (N := 76) rfl ?_); refine ev_lit (d := Kd.int .u8) HP.out 5 (xs := []) (inner := []) rfl (N := 76) rfl ?hr76 (reps_ints _ _ _ []) (by simp) ?_; (case hr76 => first | (go_simp; done) | (go_simp; rfl)); intro v_l wl hpn; clear HP; have HP := Aside0.mk hpn; clear hpn hcv1 hcv2; obtain ⟨A_l, c_l, rfl⟩ := Kd.R_slice (HP.out.row 0 rfl)) | ((with_reducible refine gate_builtin (b := .append) (xs := #[.tmp 76, .tmp 80]) rfl ?_); at_builtin; refine ev_append (plain_int .u8) HP.out 0 rfl (.tmp 76) (.tmp 80) 22 5 (.int .u8 0) 1 rfl Try.underlying22 info5 rfl (by decide) (by omega) _ [] m37 _ _ _ rfl rfl rfl (H37.out.1 _ (Kd.C_below HR.out HP.out.below)) (by have := H37.out.2.2; simp only [List.length_nil]; omega) ?_; intro v_a w6 hp; rw [List.nil_append] at hp; clear HP; have HP := Aside0.mk hp; clear hp))
    refine bodyPost_ret (results_three rfl _ _ rfl rfl rfl) rfl ?_
    exact ⟨v_a, by rw [HE.out, show unpK b = k from by unfold unpK; rw [if_pos HE.out]; exact HK.out]; rfl, by rw [show unpB b = m37 from by unfold unpB; rw [if_pos HE.out]; exact HBO.out]; exact HP.out.row 0 rfl, HP.out.below⟩
end Go.Proofs.Ytncmbkjjoamfjaa.H
