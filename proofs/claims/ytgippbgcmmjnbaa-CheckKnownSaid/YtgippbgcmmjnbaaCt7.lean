import Derived.Test.YtgippbgcmmjnbaaCt5
import Derived.Test.YtgippbgcmmjnbaaTh2
namespace Go.Proofs.Ytgippbgcmmjnbaa.Ct
open Go.RowKit Go.Proofs.Ytgippbgcmmjnbaa.XB Go.Proofs.Ytgippbgcmmjnbaa.Th Go.Proofs.YtgippbgcmmjnbaaW.PrintWords Go.Proofs.YtgippbgcmmjnbaaW.PrintLast Go.Proofs.YtgippbgcmmjnbaaXe Go.Proofs.YtgippbgcmmjnbaaXs
set_option linter.unusedVariables false
set_option linter.unusedSimpArgs false
attribute [local go_sem ↓ high] ld27
attribute [local go_sem ↓ high] bs22
attribute [local go_sem high] BS22.run

attribute [local go_sem high] eq27_same
set_option maxHeartbeats 8000000 in
set_option maxRecDepth 100000 in
theorem checkKnown_law (w : World) : Calls Try.prog 7 #[] w fun e w' => e = .returned (.bool true) ∧ Below w.heap.size w w' := by
  obtain ⟨a1, Ea1⟩ : ∃ x : List Int, x = [8, 24] := ⟨_, rfl⟩
  obtain ⟨a5, Ea5⟩ : ∃ x : List Int, x = [5] := ⟨_, rfl⟩
  obtain ⟨a8, Ea8⟩ : ∃ x : List Int, x = [8] := ⟨_, rfl⟩
  obtain ⟨a3, Ea3⟩ : ∃ x : List Int, x = [8, 16, 24] := ⟨_, rfl⟩
  obtain ⟨m1, Em1⟩ : ∃ x : List S27, x = atS a1 := ⟨_, rfl⟩
  obtain ⟨m5, Em5⟩ : ∃ x : List S27, x = atS a5 := ⟨_, rfl⟩
  obtain ⟨m8, Em8⟩ : ∃ x : List S27, x = atS a8 := ⟨_, rfl⟩
  obtain ⟨m3, Em3⟩ : ∃ x : List S27, x = atS a3 := ⟨_, rfl⟩
  obtain ⟨x1, Ex1⟩ : ∃ x : S27, x = (nearS m1 24).1 := ⟨_, rfl⟩
  obtain ⟨x2, Ex2⟩ : ∃ x : S27, x = (nearS m1 7).1 := ⟨_, rfl⟩
  have Hm1 := Aside0.mk (show atS a1 = m1 from by rw [Em1])
  have Lm1 := Aside0.mk (show m1.length ≤ 1000000 from by rw [Em1, Ea1]; decide)
  have La1 := Aside0.mk (show a1.length ≤ 1000000 from by rw [Ea1]; decide)
  have Hm5 := Aside0.mk (show atS a5 = m5 from by rw [Em5])
  have Lm5 := Aside0.mk (show m5.length ≤ 1000000 from by rw [Em5, Ea5]; decide)
  have La5 := Aside0.mk (show a5.length ≤ 1000000 from by rw [Ea5]; decide)
  have Hm8 := Aside0.mk (show atS a8 = m8 from by rw [Em8])
  have Lm8 := Aside0.mk (show m8.length ≤ 1000000 from by rw [Em8, Ea8]; decide)
  have La8 := Aside0.mk (show a8.length ≤ 1000000 from by rw [Ea8]; decide)
  have Hm3 := Aside0.mk (show atS a3 = m3 from by rw [Em3])
  have Lm3 := Aside0.mk (show m3.length ≤ 1000000 from by rw [Em3, Ea3]; decide)
  have La3 := Aside0.mk (show a3.length ≤ 1000000 from by rw [Ea3]; decide)
  have HN1 := Aside0.mk (show nearS m1 24 = (x1, true) from by rw [Ex1, Em1, Ea1]; rfl)
  have hx1 : (x1.f0 == 24) = true := by rw [Ex1, Em1, Ea1]; rfl
  have HN2 := Aside0.mk (show nearS m1 7 = (x2, false) from by rw [Ex2, Em1, Ea1]; rfl)
  have HPU1 := Aside0.mk (show putS m1 ⟨16, z25⟩ = (m3, 0) from by rw [Em3, Em1, Ea1, Ea3]; rfl)
  have HPU2 := Aside0.mk (show putS m1 ⟨8, z25⟩ = ([], 7) from by rw [Em1, Ea1]; rfl)
  have HPU3 := Aside0.mk (show putS m1 ⟨9, z25⟩ = ([], 2) from by rw [Em1, Ea1]; rfl)
  have HP7 := Aside0.mk (show placesS 7 = [] from by rfl)
  have HPm := Aside0.mk (show placesS (-1) = [] from by rfl)
  have HM1 := Aside0.mk (show mayS m1 20 = 2 from by rw [Em1, Ea1]; rfl)
  have HM5 := Aside0.mk (show mayS m5 20 = 2 from by rw [Em5, Ea5]; rfl)
  have HK := Aside0.mk (show keptS m1 10 = m8 from by rw [Em8, Em1, Ea1, Ea8]; rfl)
  have Ka1 := Aside0.mk Ea1
  have Ka5 := Aside0.mk Ea5
  have Ka8 := Aside0.mk Ea8
  have Ka3 := Aside0.mk Ea3
  clear Ea1 Ea5 Ea8 Ea3 Em1 Em5 Em8 Em3 Ex1 Ex2
  have HP := Aside0.mk (Hp.start w)
  go_enter Try.func7, Try.ntmps7
  go_wp2_with (first | ((with_reducible refine gate_dst (N := 13) rfl ?_); refine ev_lit (d := Kd.int .i64) HP.out 3 (xs := ([8, 24] : List Int)) (inner := ([8, 24] : List Int).map (Value.int .i64)) rfl (N := 13) rfl ?hr13 (reps_ints _ _ _ _) (by decide) ?_; (case hr13 => first | (go_simp; done) | (go_simp; rfl)); intro v_s1 wn1 hpn; rw [← Ka1.out] at hpn; clear HP; have HP := Aside0.mk hpn; clear hpn; obtain ⟨A_s1, c_s1, rfl⟩ := Kd.R_slice (HP.out.row 0 rfl)))
  (with_reducible refine (c_at' _ _ a1 m1 _ (Kd.R_reads' (HP.out.row 0 rfl)).2.2 (Kd.R_reads' (HP.out.row 0 rfl)).2.1 La1.out Hm1.out).mono ?_); rintro e wn2 ⟨v, rfl, ho, hb⟩; have HPn := Aside0.mk (HP.out.newR hb ho); clear HP; have HP := HPn; clear HPn; obtain ⟨A_r1, c_r1, rfl⟩ := Kd.R_slice (HP.out.row 0 rfl); clear hb ho
  go_wp2_with fail
  (with_reducible refine (c_near' _ _ m1 _ (Kd.R_reads' (HP.out.row 0 rfl)).2.2 (Kd.R_reads' (HP.out.row 0 rfl)).2.1 Lm1.out 24 x1 true HN1.out).mono ?_); rintro e wn3 ⟨rfl, hb⟩; have HPn := Aside0.mk (HP.out.call hb); clear HP; have HP := HPn; clear HPn; clear hb
  go_wp2_with (first | ((with_reducible refine gate_dst (N := 2) rfl ?_); refine ev_alloc rfl 27 rfl _ zero27 ?_; intro g_t2 wn4 hge hg hb; have HPn := Aside0.mk (HP.out.newB hb hg hge); clear HP; have HP := HPn; clear HPn; clear hge hg hb) | ((with_reducible refine gate_store (t := 27) (p := 2) rfl ?_); refine ev_store rfl 27 (.tmp 2) (.tmp 18) rfl rfl _ rfl (cells := (c27 x1).toArray) rfl (HP.out.blk 0 rfl) (hi27 _) rfl (one27 _) ?_; intro wn5 hg hgr; have HPn := Aside0.mk (HP.out.setB 0 rfl hgr hg); clear HP; have HP := HPn; clear HPn; have hc_t2_0 : wn5.cell? ⟨g_t2, 0, none⟩ = some (.int .i64 x1.f0) := blk_cell (HP.out.blk 0 rfl) 0; clear hg hgr))
  (with_reducible refine (c_near' _ _ m1 _ (Kd.R_reads' (HP.out.row 1 rfl)).2.2 (Kd.R_reads' (HP.out.row 1 rfl)).2.1 Lm1.out 7 x2 false HN2.out).mono ?_); rintro e wn6 ⟨rfl, hb⟩; have HPn := Aside0.mk (HP.out.call hb); clear HP; have HP := HPn; clear HPn; clear hc_t2_0; have hc_t2_0 : wn6.cell? ⟨g_t2, 0, none⟩ = some (.int .i64 x1.f0) := blk_cell (HP.out.blk 0 rfl) 0; clear hb
  go_wp2_with (first | ((with_reducible refine gate_dst (N := 4) rfl ?_); refine ev_alloc rfl 27 rfl _ zero27 ?_; intro g_t4 wn7 hge hg hb; have HPn := Aside0.mk (HP.out.newB hb hg hge); clear HP; have HP := HPn; clear HPn; clear hc_t2_0; have hc_t2_0 : wn7.cell? ⟨g_t2, 0, none⟩ = some (.int .i64 x1.f0) := blk_cell (HP.out.blk 1 rfl) 0; clear hge hg hb) | ((with_reducible refine gate_store (t := 27) (p := 4) rfl ?_); refine ev_store rfl 27 (.tmp 4) (.tmp 23) rfl rfl _ rfl (cells := (c27 x2).toArray) rfl (HP.out.blk 0 rfl) (hi27 _) rfl (one27 _) ?_; intro wn8 hg hgr; have HPn := Aside0.mk (HP.out.setB 0 rfl hgr hg); clear HP; have HP := HPn; clear HPn; clear hc_t2_0; have hc_t2_0 : wn8.cell? ⟨g_t2, 0, none⟩ = some (.int .i64 x1.f0) := blk_cell (HP.out.blk 1 rfl) 0; clear hg hgr))
  refine (c_put' _ _ m1 _ (Kd.R_reads' (HP.out.row 2 rfl)).2.2 (Kd.R_reads' (HP.out.row 2 rfl)).2.1 Lm1.out ⟨16, z25⟩ m3 0 HPU1.out).mono ?_; rintro e wn9 ⟨v, rfl, ho, hb⟩; have HPn := Aside0.mk (HP.out.newR hb ho); clear HP; have HP := HPn; clear HPn; obtain ⟨A_p1, c_p1, rfl⟩ := Kd.R_slice (HP.out.row 0 rfl); clear hc_t2_0; have hc_t2_0 : wn9.cell? ⟨g_t2, 0, none⟩ = some (.int .i64 x1.f0) := blk_cell (HP.out.blk 2 rfl) 0; clear hb ho
  go_wp2_with fail
  refine (c_put' _ _ m1 _ (Kd.R_reads' (HP.out.row 3 rfl)).2.2 (Kd.R_reads' (HP.out.row 3 rfl)).2.1 Lm1.out ⟨8, z25⟩ [] 7 HPU2.out).mono ?_; rintro e wn10 ⟨v, rfl, ho, hb⟩; have HPn := Aside0.mk (HP.out.newR hb ho); clear HP; have HP := HPn; clear HPn; obtain ⟨A_p2, c_p2, rfl⟩ := Kd.R_slice (HP.out.row 0 rfl); clear hc_t2_0; have hc_t2_0 : wn10.cell? ⟨g_t2, 0, none⟩ = some (.int .i64 x1.f0) := blk_cell (HP.out.blk 3 rfl) 0; clear hb ho
  go_wp2_with fail
  refine (c_put' _ _ m1 _ (Kd.R_reads' (HP.out.row 4 rfl)).2.2 (Kd.R_reads' (HP.out.row 4 rfl)).2.1 Lm1.out ⟨9, z25⟩ [] 2 HPU3.out).mono ?_; rintro e wn11 ⟨v, rfl, ho, hb⟩; have HPn := Aside0.mk (HP.out.newR hb ho); clear HP; have HP := HPn; clear HPn; obtain ⟨A_p3, c_p3, rfl⟩ := Kd.R_slice (HP.out.row 0 rfl); clear hc_t2_0; have hc_t2_0 : wn11.cell? ⟨g_t2, 0, none⟩ = some (.int .i64 x1.f0) := blk_cell (HP.out.blk 4 rfl) 0; clear hb ho
  go_wp2_with fail
  (with_reducible refine (c_places' 7 [] _ HP7.out).mono ?_); rintro e wn12 ⟨v, rfl, ho, hb⟩; have HPn := Aside0.mk (HP.out.newR hb ho); clear HP; have HP := HPn; clear HPn; obtain ⟨A_pl7, c_pl7, rfl⟩ := Kd.R_slice (HP.out.row 0 rfl); clear hc_t2_0; have hc_t2_0 : wn12.cell? ⟨g_t2, 0, none⟩ = some (.int .i64 x1.f0) := blk_cell (HP.out.blk 5 rfl) 0; clear hb ho
  go_wp2_with fail
  (with_reducible refine (c_places' (-1) [] _ HPm.out).mono ?_); rintro e wn13 ⟨v, rfl, ho, hb⟩; have HPn := Aside0.mk (HP.out.newR hb ho); clear HP; have HP := HPn; clear HPn; obtain ⟨A_plm, c_plm, rfl⟩ := Kd.R_slice (HP.out.row 0 rfl); clear hc_t2_0; have hc_t2_0 : wn13.cell? ⟨g_t2, 0, none⟩ = some (.int .i64 x1.f0) := blk_cell (HP.out.blk 6 rfl) 0; clear hb ho
  go_wp2_with fail
  (with_reducible refine (c_may' _ _ m1 _ (Kd.R_reads' (HP.out.row 7 rfl)).2.2 (Kd.R_reads' (HP.out.row 7 rfl)).2.1 20 2 HM1.out).mono ?_); rintro e wn14 ⟨rfl, hb⟩; have HPn := Aside0.mk (HP.out.call hb); clear HP; have HP := HPn; clear HPn; clear hc_t2_0; have hc_t2_0 : wn14.cell? ⟨g_t2, 0, none⟩ = some (.int .i64 x1.f0) := blk_cell (HP.out.blk 6 rfl) 0; clear hb
  go_wp2_with (first | ((with_reducible refine gate_dst (N := 57) rfl ?_); refine ev_lit (d := Kd.int .i64) HP.out 3 (xs := ([5] : List Int)) (inner := ([5] : List Int).map (Value.int .i64)) rfl (N := 57) rfl ?hr57 (reps_ints _ _ _ _) (by decide) ?_; (case hr57 => first | (go_simp; done) | (go_simp; rfl)); intro v_s5 wn15 hpn; rw [← Ka5.out] at hpn; clear HP; have HP := Aside0.mk hpn; clear hpn; obtain ⟨A_s5, c_s5, rfl⟩ := Kd.R_slice (HP.out.row 0 rfl); clear hc_t2_0; have hc_t2_0 : wn15.cell? ⟨g_t2, 0, none⟩ = some (.int .i64 x1.f0) := blk_cell (HP.out.blk 7 rfl) 0))
  (with_reducible refine (c_at' _ _ a5 m5 _ (Kd.R_reads' (HP.out.row 0 rfl)).2.2 (Kd.R_reads' (HP.out.row 0 rfl)).2.1 La5.out Hm5.out).mono ?_); rintro e wn16 ⟨v, rfl, ho, hb⟩; have HPn := Aside0.mk (HP.out.newR hb ho); clear HP; have HP := HPn; clear HPn; obtain ⟨A_r5, c_r5, rfl⟩ := Kd.R_slice (HP.out.row 0 rfl); clear hc_t2_0; have hc_t2_0 : wn16.cell? ⟨g_t2, 0, none⟩ = some (.int .i64 x1.f0) := blk_cell (HP.out.blk 8 rfl) 0; clear hb ho
  go_wp2_with fail
  (with_reducible refine (c_may' _ _ m5 _ (Kd.R_reads' (HP.out.row 0 rfl)).2.2 (Kd.R_reads' (HP.out.row 0 rfl)).2.1 20 2 HM5.out).mono ?_); rintro e wn17 ⟨rfl, hb⟩; have HPn := Aside0.mk (HP.out.call hb); clear HP; have HP := HPn; clear HPn; clear hc_t2_0; have hc_t2_0 : wn17.cell? ⟨g_t2, 0, none⟩ = some (.int .i64 x1.f0) := blk_cell (HP.out.blk 8 rfl) 0; clear hb
  go_wp2_with fail
  (with_reducible refine (c_awake _).mono ?_); rintro e wn18 ⟨rfl, hb⟩; have HPn := Aside0.mk (HP.out.call hb); clear HP; have HP := HPn; clear HPn; clear hc_t2_0; have hc_t2_0 : wn18.cell? ⟨g_t2, 0, none⟩ = some (.int .i64 x1.f0) := blk_cell (HP.out.blk 8 rfl) 0; clear hb
  go_wp2_with fail
  (with_reducible refine (c_kept' _ _ m1 _ (Kd.R_reads' (HP.out.row 9 rfl)).2.2 (Kd.R_reads' (HP.out.row 9 rfl)).2.1 Lm1.out 10 m8 HK.out).mono ?_); rintro e wn19 ⟨v, rfl, ho, hb⟩; have HPn := Aside0.mk (HP.out.newR hb ho); clear HP; have HP := HPn; clear HPn; obtain ⟨A_kk, c_kk, rfl⟩ := Kd.R_slice (HP.out.row 0 rfl); clear hc_t2_0; have hc_t2_0 : wn19.cell? ⟨g_t2, 0, none⟩ = some (.int .i64 x1.f0) := blk_cell (HP.out.blk 9 rfl) 0; clear hb ho
  go_wp2_with (first | ((with_reducible refine gate_dst (N := 81) rfl ?_); refine ev_lit (d := Kd.int .i64) HP.out 3 (xs := ([8] : List Int)) (inner := ([8] : List Int).map (Value.int .i64)) rfl (N := 81) rfl ?hr81 (reps_ints _ _ _ _) (by decide) ?_; (case hr81 => first | (go_simp; done) | (go_simp; rfl)); intro v_s8 wn20 hpn; rw [← Ka8.out] at hpn; clear HP; have HP := Aside0.mk hpn; clear hpn; obtain ⟨A_s8, c_s8, rfl⟩ := Kd.R_slice (HP.out.row 0 rfl); clear hc_t2_0; have hc_t2_0 : wn20.cell? ⟨g_t2, 0, none⟩ = some (.int .i64 x1.f0) := blk_cell (HP.out.blk 10 rfl) 0))
  (with_reducible refine (c_at' _ _ a8 m8 _ (Kd.R_reads' (HP.out.row 0 rfl)).2.2 (Kd.R_reads' (HP.out.row 0 rfl)).2.1 La8.out Hm8.out).mono ?_); rintro e wn21 ⟨v, rfl, ho, hb⟩; have HPn := Aside0.mk (HP.out.newR hb ho); clear HP; have HP := HPn; clear HPn; obtain ⟨A_r8, c_r8, rfl⟩ := Kd.R_slice (HP.out.row 0 rfl); clear hc_t2_0; have hc_t2_0 : wn21.cell? ⟨g_t2, 0, none⟩ = some (.int .i64 x1.f0) := blk_cell (HP.out.blk 11 rfl) 0; clear hb ho
  go_wp2_with fail
  (with_reducible refine (c_same _ _ m8 _ (Kd.R_reads' (HP.out.row 2 rfl)).2.2 (Kd.R_reads' (HP.out.row 2 rfl)).2.1 Lm8.out _ _ (Kd.R_reads' (HP.out.row 0 rfl)).2.2 (Kd.R_reads' (HP.out.row 0 rfl)).2.1).mono ?_); rintro e wn22 ⟨rfl, hb⟩; have HPn := Aside0.mk (HP.out.call hb); clear HP; have HP := HPn; clear HPn; clear hc_t2_0; have hc_t2_0 : wn22.cell? ⟨g_t2, 0, none⟩ = some (.int .i64 x1.f0) := blk_cell (HP.out.blk 11 rfl) 0; clear hb
  go_wp2_with (first | ((with_reducible refine gate_dst (N := 91) rfl ?_); refine ev_lit (d := Kd.int .i64) HP.out 3 (xs := ([8, 16, 24] : List Int)) (inner := ([8, 16, 24] : List Int).map (Value.int .i64)) rfl (N := 91) rfl ?hr91 (reps_ints _ _ _ _) (by decide) ?_; (case hr91 => first | (go_simp; done) | (go_simp; rfl)); intro v_s3 wn23 hpn; rw [← Ka3.out] at hpn; clear HP; have HP := Aside0.mk hpn; clear hpn; obtain ⟨A_s3, c_s3, rfl⟩ := Kd.R_slice (HP.out.row 0 rfl); clear hc_t2_0; have hc_t2_0 : wn23.cell? ⟨g_t2, 0, none⟩ = some (.int .i64 x1.f0) := blk_cell (HP.out.blk 12 rfl) 0))
  (with_reducible refine (c_at' _ _ a3 m3 _ (Kd.R_reads' (HP.out.row 0 rfl)).2.2 (Kd.R_reads' (HP.out.row 0 rfl)).2.1 La3.out Hm3.out).mono ?_); rintro e wn24 ⟨v, rfl, ho, hb⟩; have HPn := Aside0.mk (HP.out.newR hb ho); clear HP; have HP := HPn; clear HPn; obtain ⟨A_r3, c_r3, rfl⟩ := Kd.R_slice (HP.out.row 0 rfl); clear hc_t2_0; have hc_t2_0 : wn24.cell? ⟨g_t2, 0, none⟩ = some (.int .i64 x1.f0) := blk_cell (HP.out.blk 13 rfl) 0; clear hb ho
  go_wp2_with fail
  (with_reducible refine (c_same _ _ m3 _ (Kd.R_reads' (HP.out.row 11 rfl)).2.2 (Kd.R_reads' (HP.out.row 11 rfl)).2.1 Lm3.out _ _ (Kd.R_reads' (HP.out.row 0 rfl)).2.2 (Kd.R_reads' (HP.out.row 0 rfl)).2.1).mono ?_); rintro e wn25 ⟨rfl, hb⟩; have HPn := Aside0.mk (HP.out.call hb); clear HP; have HP := HPn; clear HPn; clear hc_t2_0; have hc_t2_0 : wn25.cell? ⟨g_t2, 0, none⟩ = some (.int .i64 x1.f0) := blk_cell (HP.out.blk 13 rfl) 0; clear hb
  go_wp2_with fail
  go_ret
  exact ⟨rfl, HP.out.below⟩
end Go.Proofs.Ytgippbgcmmjnbaa.Ct
