import Derived.Test.YtgippbgcmmjnbaaCt4
namespace Go.Proofs.Ytgippbgcmmjnbaa.Ct
open Go.RowKit Go.Proofs.Ytgippbgcmmjnbaa.XB Go.Proofs.Ytgippbgcmmjnbaa.Th Go.Proofs.YtgippbgcmmjnbaaW.PrintWords Go.Proofs.YtgippbgcmmjnbaaW.PrintLast Go.Proofs.YtgippbgcmmjnbaaXe Go.Proofs.YtgippbgcmmjnbaaXs
set_option linter.unusedVariables false
set_option linter.unusedSimpArgs false
attribute [local go_sem ↓ high] ld27
attribute [local go_sem ↓ high] bs22
attribute [local go_sem high] BS22.run

theorem eq27_same (d : Nat) (w : World) (x : S27) : (Op.equalIn (d + 3) 27 (.agg (c27 x).toArray) (.agg (c27 x).toArray)).run Try.prog w = .ok true w := by
  have h := eqA27 d w x.f0 x.f0 x.f1.f0 x.f1.f0 x.f1.f1 x.f1.f1 x.f1.f2 x.f1.f2 x.f1.f3 x.f1.f3 x.f1.f4 x.f1.f4 x.f1.f5 x.f1.f5 x.f1.f6 x.f1.f6 x.f1.f7 x.f1.f7 x.f1.f8 x.f1.f8 x.f1.f9 x.f1.f9 x.f1.f10 x.f1.f10 x.f1.f11 x.f1.f11 x.f1.f12 x.f1.f12 x.f1.f13 x.f1.f13 x.f1.f14 x.f1.f14 x.f1.f15 x.f1.f15 x.f1.f16 x.f1.f16 x.f1.f17 x.f1.f17 x.f1.f18 x.f1.f18 x.f1.f19 x.f1.f19 x.f1.f20 x.f1.f20 x.f1.f21 x.f1.f21 x.f1.f22 x.f1.f22 x.f1.f23 x.f1.f23 x.f1.f24 x.f1.f24 x.f1.f25 x.f1.f25 x.f1.f26 x.f1.f26 x.f1.f27 x.f1.f27 x.f1.f28 x.f1.f28 x.f1.f29 x.f1.f29 x.f1.f30 x.f1.f30 x.f1.f31 x.f1.f31
  simp only [beq_self_eq_true, Bool.and_self] at h
  exact h
attribute [local go_sem high] eq27_same
theorem c_over {w0 w : World} {Rs : List Res} (HP : Hp w0 w Rs) (i : Nat) (v : Value) (l : List S27) (hi : Rs[i]? = some (.row k27 27 w0.heap.size v l)) (hb : l.length ≤ 1000000) :
    Calls Try.prog 17 #[v] w fun e w' => e = .returned (.tuple #[]) ∧ ∃ r, Hp w0 w' (Rs.set i (.row k27 27 w0.heap.size v r)) := by
  obtain ⟨F, hR, _, _, hup⟩ := HP.setR i hi
  obtain ⟨r, hr⟩ := over l hb
  obtain ⟨k, hk⟩ := hr.out
  refine (retconkit_OverMarks.calls k F v l r w0 w HP.below hR hk).mono ?_
  rintro e w' ⟨rfl, ho, hb, hkp⟩
  exact ⟨rfl, r, hup w' v r ho (fun k hk => hk) hb hkp⟩
theorem missS_len (l : List S27) (n : Int) : (missS l n).length ≤ 63 := by
  unfold missS check_Missing.keep
  split
  · exact Nat.le_trans (List.length_filter_le _ _) (placesS_len n)
  · simp
theorem putS_len (l : List S27) (m : S27) : (putS l m).1.length ≤ l.length + 1 := by
  unfold putS
  have h := keptS_len l m.f0
  split
  · simp
  · split
    · simp
    · split
      · simp
      · simp; omega
set_option maxHeartbeats 8000000 in
set_option maxRecDepth 100000 in
theorem checkTells_law (A : Option Addr) (c : Nat) (l : List S27) (w : World) (hr : Kd.C k27 w A l.length l) (hc : l.length ≤ c) (hm : l.length ≤ maxLen) (n a : Int) :
    Calls Try.prog 3 #[.slice A l.length c, .int .i64 n, .int .i64 a] w fun e w' => e = .returned (.bool true) ∧ Below w.heap.size w w' := by
  have HR := Aside0.mk hr
  have HC := Aside0.mk hc
  have hlm : l.length ≤ 9223372036854775807 := hr.2.1
  have HP := Aside0.mk (Hp.start w)
  clear hr hc hm
  by_cases h80 : l.length > 80
  · have hd : decide ((80 : Int) < (l.length : Int)) = true := decide_eq_true (by omega)
    go_enter Try.func3, Try.ntmps3
    go_wp2
    go_ret
    exact ⟨rfl, HP.out.below⟩
  · have hd : decide ((80 : Int) < (l.length : Int)) = false := decide_eq_false (by omega)
    have HL := Aside0.mk (show l.length ≤ 1000000 by omega)
    obtain ⟨x, b, hxb⟩ : ∃ x b, nearS l a = (x, b) := ⟨_, _, rfl⟩
    obtain ⟨q, hq⟩ : ∃ q, keptS l a = q := ⟨_, rfl⟩
    obtain ⟨p, hp⟩ : ∃ p, missS l n = p := ⟨_, rfl⟩
    obtain ⟨p2, hp2⟩ : ∃ p, placesS n = p := ⟨_, rfl⟩
    obtain ⟨r, hr⟩ : ∃ r, mayS l n = r := ⟨_, rfl⟩
    have HLq := Aside0.mk (show q.length ≤ 1000000 by have := keptS_len l a; rw [hq] at this; omega)
    have HLp2 := Aside0.mk (show p2.length ≤ 1000000 by have := placesS_len n; rw [hp2] at this; omega)
    have HLp := Aside0.mk (show p.length ≤ 1000000 by have := missS_len l n; rw [hp] at this; omega)
    have HXB := Aside0.mk hxb
    have HQ := Aside0.mk hq
    have HMP := Aside0.mk hp
    have HP2 := Aside0.mk hp2
    have HMR := Aside0.mk hr
    clear hxb hq hp hp2 hr h80
    go_enter Try.func3, Try.ntmps3
    go_wp2_with fail
    (with_reducible refine (c_copy _ c l _ (Kd.C_below HR.out HP.out.below) HC.out HL.out).mono ?_); rintro e wn1 ⟨v, rfl, ho, hb⟩; have HPn := Aside0.mk (HP.out.newR hb ho); clear HP; have HP := HPn; clear HPn; obtain ⟨A_inn, c_inn, rfl⟩ := Kd.R_slice (HP.out.row 0 rfl); clear hb ho
    go_wp2_with fail
    (with_reducible refine (c_near' _ _ l _ (Kd.R_reads' (HP.out.row 0 rfl)).2.2 (Kd.R_reads' (HP.out.row 0 rfl)).2.1 HL.out a x b HXB.out).mono ?_); rintro e wn2 ⟨rfl, hb⟩; have HPn := Aside0.mk (HP.out.call hb); clear HP; have HP := HPn; clear HPn; clear hb
    go_wp2_with (first | ((with_reducible refine gate_dst (N := 8) rfl ?_); refine ev_alloc rfl 27 rfl _ zero27 ?_; intro g_t8 wn3 hge hg hb; have HPn := Aside0.mk (HP.out.newB hb hg hge); clear HP; have HP := HPn; clear HPn; clear hge hg hb) | ((with_reducible refine gate_store (t := 27) (p := 8) rfl ?_); refine ev_store rfl 27 (.tmp 8) (.tmp 23) rfl rfl _ rfl (cells := (c27 x).toArray) rfl (HP.out.blk 0 rfl) (hi27 _) rfl (one27 _) ?_; intro wn4 hg hgr; have HPn := Aside0.mk (HP.out.setB 0 rfl hgr hg); clear HP; have HP := HPn; clear HPn; have hl_t8 := ld_blk (HP.out.blk 0 rfl); clear hg hgr))
    (with_reducible refine (c_rnear' _ c l _ (Kd.C_below HR.out HP.out.below) HC.out HL.out a x b HXB.out).mono ?_); rintro e wn5 ⟨rfl, hb⟩; have HPn := Aside0.mk (HP.out.call hb); clear HP; have HP := HPn; clear HPn; clear hl_t8; have hl_t8 := ld_blk (HP.out.blk 0 rfl); clear hb
    go_wp2_with (first | ((with_reducible refine gate_dst (N := 10) rfl ?_); refine ev_alloc rfl 27 rfl _ zero27 ?_; intro g_t10 wn6 hge hg hb; have HPn := Aside0.mk (HP.out.newB hb hg hge); clear HP; have HP := HPn; clear HPn; clear hl_t8; have hl_t8 := ld_blk (HP.out.blk 1 rfl); clear hge hg hb) | ((with_reducible refine gate_store (t := 27) (p := 10) rfl ?_); refine ev_store rfl 27 (.tmp 10) (.tmp 29) rfl rfl _ rfl (cells := (c27 x).toArray) rfl (HP.out.blk 0 rfl) (hi27 _) rfl (one27 _) ?_; intro wn7 hg hgr; have HPn := Aside0.mk (HP.out.setB 0 rfl hgr hg); clear HP; have HP := HPn; clear HPn; clear hl_t8; have hl_t10 := ld_blk (HP.out.blk 0 rfl); have hl_t8 := ld_blk (HP.out.blk 1 rfl); clear hg hgr))
    (with_reducible refine (c_kept' _ _ l _ (Kd.R_reads' (HP.out.row 2 rfl)).2.2 (Kd.R_reads' (HP.out.row 2 rfl)).2.1 HL.out a q HQ.out).mono ?_); rintro e wn8 ⟨v, rfl, ho, hb⟩; have HPn := Aside0.mk (HP.out.newR hb ho); clear HP; have HP := HPn; clear HPn; obtain ⟨A_kk, c_kk, rfl⟩ := Kd.R_slice (HP.out.row 0 rfl); clear hl_t10 hl_t8; have hl_t10 := ld_blk (HP.out.blk 1 rfl); have hl_t8 := ld_blk (HP.out.blk 2 rfl); clear hb ho
    go_wp2_with fail
    (with_reducible refine (c_rkept' _ c l _ (Kd.C_below HR.out HP.out.below) HC.out HL.out a q HQ.out).mono ?_); rintro e wn9 ⟨v, rfl, ho, hb⟩; have HPn := Aside0.mk (HP.out.newR hb ho); clear HP; have HP := HPn; clear HPn; obtain ⟨A_rk, c_rk, rfl⟩ := Kd.R_slice (HP.out.row 0 rfl); clear hl_t10 hl_t8; have hl_t10 := ld_blk (HP.out.blk 2 rfl); have hl_t8 := ld_blk (HP.out.blk 3 rfl); clear hb ho
    go_wp2_with fail
    (with_reducible refine (c_same _ _ q _ (Kd.R_reads' (HP.out.row 1 rfl)).2.2 (Kd.R_reads' (HP.out.row 1 rfl)).2.1 HLq.out _ _ (Kd.R_reads' (HP.out.row 0 rfl)).2.2 (Kd.R_reads' (HP.out.row 0 rfl)).2.1).mono ?_); rintro e wn10 ⟨rfl, hb⟩; have HPn := Aside0.mk (HP.out.call hb); clear HP; have HP := HPn; clear HPn; clear hl_t10 hl_t8; have hl_t10 := ld_blk (HP.out.blk 2 rfl); have hl_t8 := ld_blk (HP.out.blk 3 rfl); clear hb
    go_wp2_with fail
    (with_reducible refine (c_miss' _ _ l _ (Kd.R_reads' (HP.out.row 4 rfl)).2.2 (Kd.R_reads' (HP.out.row 4 rfl)).2.1 n p HMP.out).mono ?_); rintro e wn11 ⟨v, rfl, ho, hb⟩; have HPn := Aside0.mk (HP.out.newR hb ho); clear HP; have HP := HPn; clear HPn; obtain ⟨A_ms, c_ms, rfl⟩ := Kd.R_slice (HP.out.row 0 rfl); clear hl_t10 hl_t8; have hl_t10 := ld_blk (HP.out.blk 3 rfl); have hl_t8 := ld_blk (HP.out.blk 4 rfl); clear hb ho
    go_wp2_with fail
    (with_reducible refine (c_rmiss' _ c l _ (Kd.C_below HR.out HP.out.below) HC.out HL.out n p HMP.out).mono ?_); rintro e wn12 ⟨v, rfl, ho, hb⟩; have HPn := Aside0.mk (HP.out.newR hb ho); clear HP; have HP := HPn; clear HPn; obtain ⟨A_rms, c_rms, rfl⟩ := Kd.R_slice (HP.out.row 0 rfl); clear hl_t10 hl_t8; have hl_t10 := ld_blk (HP.out.blk 4 rfl); have hl_t8 := ld_blk (HP.out.blk 5 rfl); clear hb ho
    go_wp2_with fail
    (with_reducible refine (c_sameI _ _ _ _ p _ (Kd.R_reads' (HP.out.row 1 rfl)).2.2 (Kd.R_reads' (HP.out.row 1 rfl)).2.1 HLp.out (Kd.R_reads' (HP.out.row 0 rfl)).2.2 (Kd.R_reads' (HP.out.row 0 rfl)).2.1).mono ?_); rintro e wn13 ⟨rfl, hb⟩; have HPn := Aside0.mk (HP.out.call hb); clear HP; have HP := HPn; clear HPn; clear hl_t10 hl_t8; have hl_t10 := ld_blk (HP.out.blk 4 rfl); have hl_t8 := ld_blk (HP.out.blk 5 rfl); clear hb
    go_wp2_with fail
    (with_reducible refine (c_over HP.out 3 _ q rfl HLq.out).mono ?_); rintro e wn14 ⟨rfl, rr, hpn⟩; clear HP; have HP := Aside0.mk hpn; clear hpn; clear hl_t10 hl_t8
    go_wp2_with fail
    (with_reducible refine (c_same _ _ l _ (Kd.R_reads' (HP.out.row 6 rfl)).2.2 (Kd.R_reads' (HP.out.row 6 rfl)).2.1 HL.out _ c (Kd.C_below HR.out HP.out.below) HC.out).mono ?_); rintro e wn15 ⟨rfl, hb⟩; have HPn := Aside0.mk (HP.out.call hb); clear HP; have HP := HPn; clear HPn; clear hb
    go_wp2_with fail
    (with_reducible refine (c_places' n p2 _ HP2.out).mono ?_); rintro e wn16 ⟨v, rfl, ho, hb⟩; have HPn := Aside0.mk (HP.out.newR hb ho); clear HP; have HP := HPn; clear HPn; obtain ⟨A_pl, c_pl, rfl⟩ := Kd.R_slice (HP.out.row 0 rfl); clear hb ho
    go_wp2_with fail
    (with_reducible refine (c_rplaces' n p2 _ HP2.out).mono ?_); rintro e wn17 ⟨v, rfl, ho, hb⟩; have HPn := Aside0.mk (HP.out.newR hb ho); clear HP; have HP := HPn; clear HPn; obtain ⟨A_rpl, c_rpl, rfl⟩ := Kd.R_slice (HP.out.row 0 rfl); clear hb ho
    go_wp2_with fail
    (with_reducible refine (c_sameI _ _ _ _ p2 _ (Kd.R_reads' (HP.out.row 1 rfl)).2.2 (Kd.R_reads' (HP.out.row 1 rfl)).2.1 HLp2.out (Kd.R_reads' (HP.out.row 0 rfl)).2.2 (Kd.R_reads' (HP.out.row 0 rfl)).2.1).mono ?_); rintro e wn18 ⟨rfl, hb⟩; have HPn := Aside0.mk (HP.out.call hb); clear HP; have HP := HPn; clear HPn; clear hb
    go_wp2_with fail
    (with_reducible refine (c_may' _ c l _ (Kd.C_below HR.out HP.out.below) HC.out n r HMR.out).mono ?_); rintro e wn19 ⟨rfl, hb⟩; have HPn := Aside0.mk (HP.out.call hb); clear HP; have HP := HPn; clear HPn; clear hb
    go_wp2_with fail
    (with_reducible refine (c_rmay' _ c l _ (Kd.C_below HR.out HP.out.below) HC.out HL.out n r HMR.out).mono ?_); rintro e wn20 ⟨rfl, hb⟩; have HPn := Aside0.mk (HP.out.call hb); clear HP; have HP := HPn; clear HPn; clear hb
    go_wp2_with fail
    (with_reducible refine (c_awake _).mono ?_); rintro e wn21 ⟨rfl, hb⟩; have HPn := Aside0.mk (HP.out.call hb); clear HP; have HP := HPn; clear HPn; clear hb
    go_wp2_with fail
    go_ret
    exact ⟨rfl, HP.out.below⟩
set_option maxHeartbeats 8000000 in
set_option maxRecDepth 100000 in
theorem checkPuts_law (A : Option Addr) (c : Nat) (l : List S27) (w : World) (hr : Kd.C k27 w A l.length l) (hc : l.length ≤ c) (hm : l.length ≤ maxLen) (m : S27) :
    Calls Try.prog 5 #[.slice A l.length c, .agg (c27 m).toArray] w fun e w' => e = .returned (.bool true) ∧ Below w.heap.size w w' := by
  have HR := Aside0.mk hr
  have HC := Aside0.mk hc
  have hlm : l.length ≤ 9223372036854775807 := hr.2.1
  have HP := Aside0.mk (Hp.start w)
  clear hr hc hm
  by_cases h80 : l.length > 80
  · have hd : decide ((80 : Int) < (l.length : Int)) = true := decide_eq_true (by omega)
    go_enter Try.func5, Try.ntmps5
    go_wp2
    go_ret
    exact ⟨rfl, by apply below_alloc; exact HP.out.below⟩
  · have hd : decide ((80 : Int) < (l.length : Int)) = false := decide_eq_false (by omega)
    have HL := Aside0.mk (show l.length ≤ 1000000 by omega)
    obtain ⟨q, k, hq⟩ : ∃ q k, putS l m = (q, k) := ⟨_, _, rfl⟩
    have HLq := Aside0.mk (show q.length ≤ 1000000 by have := putS_len l m; rw [hq] at this; simp at this; omega)
    have HQ := Aside0.mk hq
    clear hq h80
    go_enter Try.func5, Try.ntmps5
    go_wp2_with (first | ((with_reducible refine gate_dst (N := 3) rfl ?_); refine ev_box rfl 27 (.tmp 1) rfl (c27 m).toArray rfl ?_; intro g_t3 wn1 hge hg hb; have HPn := Aside0.mk (HP.out.newB hb hg hge); clear HP; have HP := HPn; clear HPn; have hl_t3 := ld_blk (HP.out.blk 0 rfl); clear hge hg hb))
    (with_reducible refine (c_copy _ c l _ (Kd.C_below HR.out HP.out.below) HC.out HL.out).mono ?_); rintro e wn2 ⟨v, rfl, ho, hb⟩; have HPn := Aside0.mk (HP.out.newR hb ho); clear HP; have HP := HPn; clear HPn; obtain ⟨A_inn, c_inn, rfl⟩ := Kd.R_slice (HP.out.row 0 rfl); clear hl_t3; have hl_t3 := ld_blk (HP.out.blk 1 rfl); clear hb ho
    go_wp2_with fail
    (with_reducible refine (c_put' _ _ l _ (Kd.R_reads' (HP.out.row 0 rfl)).2.2 (Kd.R_reads' (HP.out.row 0 rfl)).2.1 HL.out m q k HQ.out).mono ?_); rintro e wn3 ⟨v, rfl, ho, hb⟩; have HPn := Aside0.mk (HP.out.newR hb ho); clear HP; have HP := HPn; clear HPn; obtain ⟨A_px, c_px, rfl⟩ := Kd.R_slice (HP.out.row 0 rfl); clear hl_t3; have hl_t3 := ld_blk (HP.out.blk 2 rfl); clear hb ho
    go_wp2_with fail
    (with_reducible refine (c_rput' _ c l _ (Kd.C_below HR.out HP.out.below) HC.out HL.out m q k HQ.out).mono ?_); rintro e wn4 ⟨v, rfl, ho, hb⟩; have HPn := Aside0.mk (HP.out.newR hb ho); clear HP; have HP := HPn; clear HPn; obtain ⟨A_py, c_py, rfl⟩ := Kd.R_slice (HP.out.row 0 rfl); clear hl_t3; have hl_t3 := ld_blk (HP.out.blk 3 rfl); clear hb ho
    go_wp2_with fail
    (with_reducible refine (c_same _ _ q _ (Kd.R_reads' (HP.out.row 1 rfl)).2.2 (Kd.R_reads' (HP.out.row 1 rfl)).2.1 HLq.out _ _ (Kd.R_reads' (HP.out.row 0 rfl)).2.2 (Kd.R_reads' (HP.out.row 0 rfl)).2.1).mono ?_); rintro e wn5 ⟨rfl, hb⟩; have HPn := Aside0.mk (HP.out.call hb); clear HP; have HP := HPn; clear HPn; clear hl_t3; have hl_t3 := ld_blk (HP.out.blk 3 rfl); clear hb
    go_wp2_with fail
    (with_reducible refine (c_over HP.out 1 _ q rfl HLq.out).mono ?_); rintro e wn6 ⟨rfl, rr, hpn⟩; clear HP; have HP := Aside0.mk hpn; clear hpn; clear hl_t3
    go_wp2_with fail
    (with_reducible refine (c_same _ _ l _ (Kd.R_reads' (HP.out.row 2 rfl)).2.2 (Kd.R_reads' (HP.out.row 2 rfl)).2.1 HL.out _ c (Kd.C_below HR.out HP.out.below) HC.out).mono ?_); rintro e wn7 ⟨rfl, hb⟩; have HPn := Aside0.mk (HP.out.call hb); clear HP; have HP := HPn; clear HPn; clear hb
    go_wp2_with fail
    (with_reducible refine (c_awake _).mono ?_); rintro e wn8 ⟨rfl, hb⟩; have HPn := Aside0.mk (HP.out.call hb); clear HP; have HP := HPn; clear HPn; clear hb
    go_wp2_with fail
    go_ret
    exact ⟨rfl, HP.out.below⟩
end Go.Proofs.Ytgippbgcmmjnbaa.Ct
