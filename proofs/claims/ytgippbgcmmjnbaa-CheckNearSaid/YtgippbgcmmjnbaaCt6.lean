import Derived.Test.YtgippbgcmmjnbaaCt5
import Derived.Test.YtgippbgcmmjnbaaTh2
namespace Go.Proofs.Ytgippbgcmmjnbaa.Ct
open Go.RowKit Go.Proofs.Ytgippbgcmmjnbaa.XB Go.Proofs.Ytgippbgcmmjnbaa.Th Go.Proofs.YtgippbgcmmjnbaaW.PrintWords Go.Proofs.YtgippbgcmmjnbaaW.PrintLast Go.Proofs.YtgippbgcmmjnbaaXe Go.Proofs.YtgippbgcmmjnbaaXs
set_option linter.unusedVariables false
set_option linter.unusedSimpArgs false
attribute [local go_sem ↓ high] ld27
attribute [local go_sem ↓ high] bs22
attribute [local go_sem high] BS22.run

attribute [local go_sem high] eq27_same
set_option maxHeartbeats 8000000 in
set_option maxRecDepth 100000 in
theorem checkNear_law (A : Option Addr) (c : Nat) (l : List S27) (w : World) (hr : Kd.C k27 w A l.length l) (hc : l.length ≤ c) (hm : l.length ≤ maxLen) (n a : Int) (ha : -9223372036854775808 ≤ a ∧ a ≤ 9223372036854775807) :
    Calls Try.prog 4 #[.slice A l.length c, .int .i64 n, .int .i64 a] w fun e w' => e = .returned (.bool true) ∧ Below w.heap.size w w' := by
  have HR := Aside0.mk hr
  have HC := Aside0.mk hc
  have hlm : l.length ≤ 9223372036854775807 := hr.2.1
  have HP := Aside0.mk (Hp.start w)
  clear hr hc hm
  by_cases h80 : l.length > 80
  · have hd : decide ((80 : Int) < (l.length : Int)) = true := decide_eq_true (by omega)
    go_enter Try.func4, Try.ntmps4
    go_wp2_with fail
    (with_reducible refine (c_awake _).mono ?_); rintro e wn1 ⟨rfl, hb⟩; have HPn := Aside0.mk (HP.out.call hb); clear HP; have HP := HPn; clear HPn; clear hb
    go_wp2_with fail
    go_ret
    exact ⟨rfl, HP.out.below⟩
  · have hd : decide ((80 : Int) < (l.length : Int)) = false := decide_eq_false (by omega)
    have HL := Aside0.mk (show l.length ≤ 1000000 by omega)
    obtain ⟨r, hr⟩ : ∃ r, mayS l n = r := ⟨_, rfl⟩
    have HMR := Aside0.mk hr
    clear h80
    by_cases hr0 : r = 0
    · subst hr0
      obtain ⟨⟨hn0, hn5⟩, hok⟩ := mayS_zero.1 hr
      have hok5 := okL_le hok hn5
      obtain ⟨x, b, hxb⟩ : ∃ x b, nearS l a = (x, b) := ⟨_, _, rfl⟩
      have hqx : nearS (keptS l a) a = (x, b) := by rw [nearS_idem hok5]; exact hxb
      have hnn := fun h0 ha => near_near (a := a) hr hxb h0 ha
      have hsome := fun (h : nearS l a = (x, true)) => nearS_some hok5 h
      have hnone := fun (h : nearS l a = (x, false)) => nearS_none hok5 h
      obtain ⟨q, hq⟩ : ∃ q, keptS l a = q := ⟨_, rfl⟩
      obtain ⟨p, hp⟩ : ∃ p, missS l n = p := ⟨_, rfl⟩
      rw [hq] at hqx
      rw [hp] at hnn
      have HLq := Aside0.mk (show q.length ≤ 1000000 by have := keptS_len l a; have := HL.out; rw [hq] at *; omega)
      have HLp := Aside0.mk (show p.length ≤ 1000000 by have := missS_len l n; rw [hp] at this; omega)
      have HXB := Aside0.mk hxb
      have HQX := Aside0.mk hqx
      have HQ := Aside0.mk hq
      have HMP := Aside0.mk hp
      clear hq hp hok hok5 hr hqx
      cases b with
      | true =>
        obtain ⟨hx1, hx2, hx3⟩ := hsome hxb
        have hx8 : 8 ≤ x.f0 := by have := plB_iff.1 ((okL_iff.1 (mayS_zero.1 HMR.out).2).1 x hx1).2; omega
        have hxa : decide (a < x.f0) = false := decide_eq_false (by omega)
        have HX3 := Aside0.mk hx3
        have HNN := Aside0.mk hnn
        have hx5 : x.f0 ≤ 500 := by have := plB_iff.1 ((okL_iff.1 (mayS_zero.1 HMR.out).2).1 x hx1).2; omega
        clear hsome hnone hx1 hx3 hnn hxb
        go_enter Try.func4, Try.ntmps4
        go_wp2_with fail
        (with_reducible refine (c_awake _).mono ?_); rintro e wn1 ⟨rfl, hb⟩; have HPn := Aside0.mk (HP.out.call hb); clear HP; have HP := HPn; clear HPn; clear hb
        go_wp2_with fail
        (with_reducible refine (c_may' _ c l _ (Kd.C_below HR.out HP.out.below) HC.out n 0 HMR.out).mono ?_); rintro e wn2 ⟨rfl, hb⟩; have HPn := Aside0.mk (HP.out.call hb); clear HP; have HP := HPn; clear HPn; clear hb
        go_wp2_with fail
        (with_reducible refine (c_near' _ c l _ (Kd.C_below HR.out HP.out.below) HC.out HL.out a x true HXB.out).mono ?_); rintro e wn3 ⟨rfl, hb⟩; have HPn := Aside0.mk (HP.out.call hb); clear HP; have HP := HPn; clear HPn; clear hb
        go_wp2_with (first | ((with_reducible refine gate_dst (N := 8) rfl ?_); refine ev_alloc rfl 27 rfl _ zero27 ?_; intro g_t8 wn4 hge hg hb; have HPn := Aside0.mk (HP.out.newB hb hg hge); clear HP; have HP := HPn; clear HPn; clear hge hg hb) | ((with_reducible refine gate_store (t := 27) (p := 8) rfl ?_); refine ev_store rfl 27 (.tmp 8) (.tmp 29) rfl rfl _ rfl (cells := (c27 x).toArray) rfl (HP.out.blk 0 rfl) (hi27 _) rfl (one27 _) ?_; intro wn5 hg hgr; have HPn := Aside0.mk (HP.out.setB 0 rfl hgr hg); clear HP; have HP := HPn; clear HPn; have hc_t8_0 : wn5.cell? ⟨g_t8, 0, none⟩ = some (.int .i64 x.f0) := blk_cell (HP.out.blk 0 rfl) 0; have hl_t8 := ld_blk (HP.out.blk 0 rfl); clear hg hgr))
        (with_reducible refine (c_kept' _ c l _ (Kd.C_below HR.out HP.out.below) HC.out HL.out a q HQ.out).mono ?_); rintro e wn6 ⟨v, rfl, ho, hb⟩; have HPn := Aside0.mk (HP.out.newR hb ho); clear HP; have HP := HPn; clear HPn; obtain ⟨A_kk, c_kk, rfl⟩ := Kd.R_slice (HP.out.row 0 rfl); clear hc_t8_0 hl_t8; have hc_t8_0 : wn6.cell? ⟨g_t8, 0, none⟩ = some (.int .i64 x.f0) := blk_cell (HP.out.blk 1 rfl) 0; have hl_t8 := ld_blk (HP.out.blk 1 rfl); clear hb ho
        go_wp2_with fail
        (with_reducible refine (c_near' _ _ q _ (Kd.R_reads' (HP.out.row 0 rfl)).2.2 (Kd.R_reads' (HP.out.row 0 rfl)).2.1 HLq.out a x true HQX.out).mono ?_); rintro e wn7 ⟨rfl, hb⟩; have HPn := Aside0.mk (HP.out.call hb); clear HP; have HP := HPn; clear HPn; clear hc_t8_0 hl_t8; have hc_t8_0 : wn7.cell? ⟨g_t8, 0, none⟩ = some (.int .i64 x.f0) := blk_cell (HP.out.blk 1 rfl) 0; have hl_t8 := ld_blk (HP.out.blk 1 rfl); clear hb
        go_wp2_with (first | ((with_reducible refine gate_dst (N := 10) rfl ?_); refine ev_alloc rfl 27 rfl _ zero27 ?_; intro g_t10 wn8 hge hg hb; have HPn := Aside0.mk (HP.out.newB hb hg hge); clear HP; have HP := HPn; clear HPn; clear hc_t8_0 hl_t8; have hc_t8_0 : wn8.cell? ⟨g_t8, 0, none⟩ = some (.int .i64 x.f0) := blk_cell (HP.out.blk 2 rfl) 0; have hl_t8 := ld_blk (HP.out.blk 2 rfl); clear hge hg hb) | ((with_reducible refine gate_store (t := 27) (p := 10) rfl ?_); refine ev_store rfl 27 (.tmp 10) (.tmp 37) rfl rfl _ rfl (cells := (c27 x).toArray) rfl (HP.out.blk 0 rfl) (hi27 _) rfl (one27 _) ?_; intro wn9 hg hgr; have HPn := Aside0.mk (HP.out.setB 0 rfl hgr hg); clear HP; have HP := HPn; clear HPn; clear hc_t8_0 hl_t8; have hc_t10_0 : wn9.cell? ⟨g_t10, 0, none⟩ = some (.int .i64 x.f0) := blk_cell (HP.out.blk 0 rfl) 0; have hl_t10 := ld_blk (HP.out.blk 0 rfl); have hc_t8_0 : wn9.cell? ⟨g_t8, 0, none⟩ = some (.int .i64 x.f0) := blk_cell (HP.out.blk 2 rfl) 0; have hl_t8 := ld_blk (HP.out.blk 2 rfl); clear hg hgr))
        go_loopg [12] l.length (fun kq v12 w' => ∃ (i : Nat), v12 = .int .i64 i ∧ i ≤ l.length ∧ Aside0 (kq + i = l.length) ∧ Aside0 (Drawn0 wn9 w'))
        case atStart => exact ⟨0, rfl, by omega, ⟨by omega⟩, ⟨Drawn0.refl _⟩⟩
        case round =>
          clear hc_t10_0 hl_t10 hc_t8_0 hl_t8
          obtain ⟨i, rfl, h1, HK, HD⟩ := hrel
          have HPr := Aside0.mk (HP.out.call HD.out.below)
          by_cases c1 : i < l.length
          · have c1i : (i : Int) < (l.length : Int) := by omega
            have h0 : (0 : Int) ≤ (i : Int) := by omega
            have hd1 : decide (i < l.length) = true := decide_eq_true c1
            obtain ⟨ad, rfl, hx, hld⟩ := ld_at (Kd.C_below HR.out HPr.out.below) (i : Int) h0 c1i
            rw [Int.toNat_natCast] at hx
            have hcx : wr.cell? ⟨g_t8, 0, none⟩ = some (.int .i64 x.f0) := blk_cell (HPr.out.blk 2 rfl) 0
            have hmem : rd_T27 l i ∈ l := by unfold rd_T27; simp [c1]
            have hle := HX3.out _ hmem
            clear hld hmem
            obtain ⟨y, hy⟩ : ∃ y, (rd_T27 l i).f0 = y := ⟨_, rfl⟩
            rw [hy] at hx hle
            clear hy
            by_cases c2 : y ≤ a
            · have d2 : decide (y ≤ a) = true := decide_eq_true c2
              have d3 : decide (x.f0 < y) = false := decide_eq_false (by have := hle c2; omega)
              clear hle
              go_wp2
              go_quiet (fail)
              go_wp2
              go_roundg (gk - 1)
              case measure => have := HK.out; omega
              case rel => exact ⟨i + 1, by simp, by omega, ⟨by have := HK.out; omega⟩, ⟨HD.out.step _⟩⟩
            · have d2 : decide (y ≤ a) = false := decide_eq_false c2
              clear hle
              go_wp2
              go_quiet (fail)
              go_wp2
              go_roundg (gk - 1)
              case measure => have := HK.out; omega
              case rel => exact ⟨i + 1, by simp, by omega, ⟨by have := HK.out; omega⟩, ⟨HD.out.step _⟩⟩
          · have hd1 : decide (i < l.length) = false := decide_eq_false c1
            have hcx : wr.cell? ⟨g_t8, 0, none⟩ = some (.int .i64 x.f0) := blk_cell (HPr.out.blk 2 rfl) 0
            have hsub : IntKind.i64.wrap (a - x.f0) = a - x.f0 := by rw [i64_w, Go.Proofs.YtgippbgcmmjnbaaXe.wr (by omega)]
            clear HP
            have HP := HPr
            clear HPr
            by_cases hp0 : 0 < p.length
            · have e1 : decide (0 < p.length) = true := decide_eq_true hp0
              have e2 : decide ((0 : Int) < (p.length : Int)) = true := decide_eq_true (by omega)
              go_wp2_with fail
              (with_reducible refine (c_miss' _ c l _ (Kd.C_below HR.out HP.out.below) HC.out n p HMP.out).mono ?_); rintro e wn10 ⟨v, rfl, ho, hb⟩; have HPn := Aside0.mk (HP.out.newR hb ho); clear HP; have HP := HPn; clear HPn; obtain ⟨A_ms, c_ms, rfl⟩ := Kd.R_slice (HP.out.row 0 rfl); have hc_t10_0 : wn10.cell? ⟨g_t10, 0, none⟩ = some (.int .i64 x.f0) := blk_cell (HP.out.blk 1 rfl) 0; have hl_t10 := ld_blk (HP.out.blk 1 rfl); have hc_t8_0 : wn10.cell? ⟨g_t8, 0, none⟩ = some (.int .i64 x.f0) := blk_cell (HP.out.blk 3 rfl) 0; have hl_t8 := ld_blk (HP.out.blk 3 rfl); clear hb ho
              go_wp2_with fail
              go_ret
              exact ⟨rfl, HP.out.below⟩
            · obtain rfl : p = [] := List.length_eq_zero_iff.1 (by omega)
              by_cases hna : n < a
              · have e3 : decide (n < a) = true := decide_eq_true hna
                go_wp2_with fail
                (with_reducible refine (c_miss' _ c l _ (Kd.C_below HR.out HP.out.below) HC.out n [] HMP.out).mono ?_); rintro e wn10 ⟨v, rfl, ho, hb⟩; have HPn := Aside0.mk (HP.out.newR hb ho); clear HP; have HP := HPn; clear HPn; obtain ⟨A_ms, c_ms, rfl⟩ := Kd.R_slice (HP.out.row 0 rfl); have hc_t10_0 : wn10.cell? ⟨g_t10, 0, none⟩ = some (.int .i64 x.f0) := blk_cell (HP.out.blk 1 rfl) 0; have hl_t10 := ld_blk (HP.out.blk 1 rfl); have hc_t8_0 : wn10.cell? ⟨g_t8, 0, none⟩ = some (.int .i64 x.f0) := blk_cell (HP.out.blk 3 rfl) 0; have hl_t8 := ld_blk (HP.out.blk 3 rfl); clear hb ho
                go_wp2_with fail
                go_ret
                exact ⟨rfl, HP.out.below⟩
              · have e3 : decide (n < a) = false := decide_eq_false hna
                obtain ⟨h5, h6⟩ := HNN.out rfl (by omega)
                have e4 : decide (a - x.f0 < 8) = true := decide_eq_true (h5 trivial)
                have e5 : decide (8 ≤ a) = true := h6.symm
                clear h5 h6
                go_wp2_with fail
                (with_reducible refine (c_miss' _ c l _ (Kd.C_below HR.out HP.out.below) HC.out n [] HMP.out).mono ?_); rintro e wn10 ⟨v, rfl, ho, hb⟩; have HPn := Aside0.mk (HP.out.newR hb ho); clear HP; have HP := HPn; clear HPn; obtain ⟨A_ms, c_ms, rfl⟩ := Kd.R_slice (HP.out.row 0 rfl); have hc_t10_0 : wn10.cell? ⟨g_t10, 0, none⟩ = some (.int .i64 x.f0) := blk_cell (HP.out.blk 1 rfl) 0; have hl_t10 := ld_blk (HP.out.blk 1 rfl); have hc_t8_0 : wn10.cell? ⟨g_t8, 0, none⟩ = some (.int .i64 x.f0) := blk_cell (HP.out.blk 3 rfl) 0; have hl_t8 := ld_blk (HP.out.blk 3 rfl); clear hb ho
                go_wp2_with fail
                go_ret
                exact ⟨rfl, HP.out.below⟩
      | false =>
        have hnx := hnone hxb
        have HNX := Aside0.mk hnx
        have HNN := Aside0.mk hnn
        clear hsome hnone hnn hxb hnx
        go_enter Try.func4, Try.ntmps4
        go_wp2_with fail
        (with_reducible refine (c_awake _).mono ?_); rintro e wn1 ⟨rfl, hb⟩; have HPn := Aside0.mk (HP.out.call hb); clear HP; have HP := HPn; clear HPn; clear hb
        go_wp2_with fail
        (with_reducible refine (c_may' _ c l _ (Kd.C_below HR.out HP.out.below) HC.out n 0 HMR.out).mono ?_); rintro e wn2 ⟨rfl, hb⟩; have HPn := Aside0.mk (HP.out.call hb); clear HP; have HP := HPn; clear HPn; clear hb
        go_wp2_with fail
        (with_reducible refine (c_near' _ c l _ (Kd.C_below HR.out HP.out.below) HC.out HL.out a x false HXB.out).mono ?_); rintro e wn3 ⟨rfl, hb⟩; have HPn := Aside0.mk (HP.out.call hb); clear HP; have HP := HPn; clear HPn; clear hb
        go_wp2_with (first | ((with_reducible refine gate_dst (N := 8) rfl ?_); refine ev_alloc rfl 27 rfl _ zero27 ?_; intro g_t8 wn4 hge hg hb; have HPn := Aside0.mk (HP.out.newB hb hg hge); clear HP; have HP := HPn; clear HPn; clear hge hg hb) | ((with_reducible refine gate_store (t := 27) (p := 8) rfl ?_); refine ev_store rfl 27 (.tmp 8) (.tmp 29) rfl rfl _ rfl (cells := (c27 x).toArray) rfl (HP.out.blk 0 rfl) (hi27 _) rfl (one27 _) ?_; intro wn5 hg hgr; have HPn := Aside0.mk (HP.out.setB 0 rfl hgr hg); clear HP; have HP := HPn; clear HPn; have hc_t8_0 : wn5.cell? ⟨g_t8, 0, none⟩ = some (.int .i64 x.f0) := blk_cell (HP.out.blk 0 rfl) 0; have hl_t8 := ld_blk (HP.out.blk 0 rfl); clear hg hgr))
        (with_reducible refine (c_kept' _ c l _ (Kd.C_below HR.out HP.out.below) HC.out HL.out a q HQ.out).mono ?_); rintro e wn6 ⟨v, rfl, ho, hb⟩; have HPn := Aside0.mk (HP.out.newR hb ho); clear HP; have HP := HPn; clear HPn; obtain ⟨A_kk, c_kk, rfl⟩ := Kd.R_slice (HP.out.row 0 rfl); clear hc_t8_0 hl_t8; have hc_t8_0 : wn6.cell? ⟨g_t8, 0, none⟩ = some (.int .i64 x.f0) := blk_cell (HP.out.blk 1 rfl) 0; have hl_t8 := ld_blk (HP.out.blk 1 rfl); clear hb ho
        go_wp2_with fail
        (with_reducible refine (c_near' _ _ q _ (Kd.R_reads' (HP.out.row 0 rfl)).2.2 (Kd.R_reads' (HP.out.row 0 rfl)).2.1 HLq.out a x false HQX.out).mono ?_); rintro e wn7 ⟨rfl, hb⟩; have HPn := Aside0.mk (HP.out.call hb); clear HP; have HP := HPn; clear HPn; clear hc_t8_0 hl_t8; have hc_t8_0 : wn7.cell? ⟨g_t8, 0, none⟩ = some (.int .i64 x.f0) := blk_cell (HP.out.blk 1 rfl) 0; have hl_t8 := ld_blk (HP.out.blk 1 rfl); clear hb
        go_wp2_with (first | ((with_reducible refine gate_dst (N := 10) rfl ?_); refine ev_alloc rfl 27 rfl _ zero27 ?_; intro g_t10 wn8 hge hg hb; have HPn := Aside0.mk (HP.out.newB hb hg hge); clear HP; have HP := HPn; clear HPn; clear hc_t8_0 hl_t8; have hc_t8_0 : wn8.cell? ⟨g_t8, 0, none⟩ = some (.int .i64 x.f0) := blk_cell (HP.out.blk 2 rfl) 0; have hl_t8 := ld_blk (HP.out.blk 2 rfl); clear hge hg hb) | ((with_reducible refine gate_store (t := 27) (p := 10) rfl ?_); refine ev_store rfl 27 (.tmp 10) (.tmp 37) rfl rfl _ rfl (cells := (c27 x).toArray) rfl (HP.out.blk 0 rfl) (hi27 _) rfl (one27 _) ?_; intro wn9 hg hgr; have HPn := Aside0.mk (HP.out.setB 0 rfl hgr hg); clear HP; have HP := HPn; clear HPn; clear hc_t8_0 hl_t8; have hc_t10_0 : wn9.cell? ⟨g_t10, 0, none⟩ = some (.int .i64 x.f0) := blk_cell (HP.out.blk 0 rfl) 0; have hl_t10 := ld_blk (HP.out.blk 0 rfl); have hc_t8_0 : wn9.cell? ⟨g_t8, 0, none⟩ = some (.int .i64 x.f0) := blk_cell (HP.out.blk 2 rfl) 0; have hl_t8 := ld_blk (HP.out.blk 2 rfl); clear hg hgr))
        go_loopg [12] l.length (fun kq v12 w' => ∃ (i : Nat), v12 = .int .i64 i ∧ i ≤ l.length ∧ Aside0 (kq + i = l.length) ∧ Aside0 (Drawn0 wn9 w'))
        case atStart => exact ⟨0, rfl, by omega, ⟨by omega⟩, ⟨Drawn0.refl _⟩⟩
        case round =>
          clear hc_t10_0 hl_t10 hc_t8_0 hl_t8
          obtain ⟨i, rfl, h1, HK, HD⟩ := hrel
          have HPr := Aside0.mk (HP.out.call HD.out.below)
          by_cases c1 : i < l.length
          · have c1i : (i : Int) < (l.length : Int) := by omega
            have h0 : (0 : Int) ≤ (i : Int) := by omega
            have hd1 : decide (i < l.length) = true := decide_eq_true c1
            obtain ⟨ad, rfl, hx, hld⟩ := ld_at (Kd.C_below HR.out HPr.out.below) (i : Int) h0 c1i
            rw [Int.toNat_natCast] at hx
            have hmem : rd_T27 l i ∈ l := by unfold rd_T27; simp [c1]
            have hle := HNX.out _ hmem
            have d2 : decide ((rd_T27 l i).f0 ≤ a) = false := decide_eq_false (by omega)
            clear hld hmem hle
            go_wp2
            go_quiet (fail)
            go_wp2
            go_roundg (gk - 1)
            case measure => have := HK.out; omega
            case rel => exact ⟨i + 1, by simp, by omega, ⟨by have := HK.out; omega⟩, ⟨HD.out.step _⟩⟩
          · have hd1 : decide (i < l.length) = false := decide_eq_false c1
            clear HP
            have HP := HPr
            clear HPr
            by_cases hp0 : 0 < p.length
            · have e1 : decide (0 < p.length) = true := decide_eq_true hp0
              have e2 : decide ((0 : Int) < (p.length : Int)) = true := decide_eq_true (by omega)
              go_wp2_with fail
              (with_reducible refine (c_miss' _ c l _ (Kd.C_below HR.out HP.out.below) HC.out n p HMP.out).mono ?_); rintro e wn10 ⟨v, rfl, ho, hb⟩; have HPn := Aside0.mk (HP.out.newR hb ho); clear HP; have HP := HPn; clear HPn; obtain ⟨A_ms, c_ms, rfl⟩ := Kd.R_slice (HP.out.row 0 rfl); have hc_t10_0 : wn10.cell? ⟨g_t10, 0, none⟩ = some (.int .i64 x.f0) := blk_cell (HP.out.blk 1 rfl) 0; have hl_t10 := ld_blk (HP.out.blk 1 rfl); have hc_t8_0 : wn10.cell? ⟨g_t8, 0, none⟩ = some (.int .i64 x.f0) := blk_cell (HP.out.blk 3 rfl) 0; have hl_t8 := ld_blk (HP.out.blk 3 rfl); clear hb ho
              go_wp2_with fail
              go_ret
              exact ⟨rfl, HP.out.below⟩
            · obtain rfl : p = [] := List.length_eq_zero_iff.1 (by omega)
              by_cases hna : n < a
              · have e3 : decide (n < a) = true := decide_eq_true hna
                go_wp2_with fail
                (with_reducible refine (c_miss' _ c l _ (Kd.C_below HR.out HP.out.below) HC.out n [] HMP.out).mono ?_); rintro e wn10 ⟨v, rfl, ho, hb⟩; have HPn := Aside0.mk (HP.out.newR hb ho); clear HP; have HP := HPn; clear HPn; obtain ⟨A_ms, c_ms, rfl⟩ := Kd.R_slice (HP.out.row 0 rfl); have hc_t10_0 : wn10.cell? ⟨g_t10, 0, none⟩ = some (.int .i64 x.f0) := blk_cell (HP.out.blk 1 rfl) 0; have hl_t10 := ld_blk (HP.out.blk 1 rfl); have hc_t8_0 : wn10.cell? ⟨g_t8, 0, none⟩ = some (.int .i64 x.f0) := blk_cell (HP.out.blk 3 rfl) 0; have hl_t8 := ld_blk (HP.out.blk 3 rfl); clear hb ho
                go_wp2_with fail
                go_ret
                exact ⟨rfl, HP.out.below⟩
              · have e3 : decide (n < a) = false := decide_eq_false hna
                obtain ⟨h5, h6⟩ := HNN.out rfl (by omega)
                have e5 : decide (8 ≤ a) = false := h6.symm
                clear h5 h6
                go_wp2_with fail
                (with_reducible refine (c_miss' _ c l _ (Kd.C_below HR.out HP.out.below) HC.out n [] HMP.out).mono ?_); rintro e wn10 ⟨v, rfl, ho, hb⟩; have HPn := Aside0.mk (HP.out.newR hb ho); clear HP; have HP := HPn; clear HPn; obtain ⟨A_ms, c_ms, rfl⟩ := Kd.R_slice (HP.out.row 0 rfl); have hc_t10_0 : wn10.cell? ⟨g_t10, 0, none⟩ = some (.int .i64 x.f0) := blk_cell (HP.out.blk 1 rfl) 0; have hl_t10 := ld_blk (HP.out.blk 1 rfl); have hc_t8_0 : wn10.cell? ⟨g_t8, 0, none⟩ = some (.int .i64 x.f0) := blk_cell (HP.out.blk 3 rfl) 0; have hl_t8 := ld_blk (HP.out.blk 3 rfl); clear hb ho
                go_wp2_with fail
                go_ret
                exact ⟨rfl, HP.out.below⟩
    · have hr1 : (r == 0) = false := beq_eq_false_iff_ne.2 hr0
      have hr2 : (r != 0) = true := bne_iff_ne.2 hr0
      go_enter Try.func4, Try.ntmps4
      go_wp2_with fail
      (with_reducible refine (c_awake _).mono ?_); rintro e wn1 ⟨rfl, hb⟩; have HPn := Aside0.mk (HP.out.call hb); clear HP; have HP := HPn; clear HPn; clear hb
      go_wp2_with fail
      (with_reducible refine (c_may' _ c l _ (Kd.C_below HR.out HP.out.below) HC.out n r HMR.out).mono ?_); rintro e wn2 ⟨rfl, hb⟩; have HPn := Aside0.mk (HP.out.call hb); clear HP; have HP := HPn; clear HPn; clear hb
      go_wp2_with fail
      go_ret
      exact ⟨rfl, HP.out.below⟩
end Go.Proofs.Ytgippbgcmmjnbaa.Ct
