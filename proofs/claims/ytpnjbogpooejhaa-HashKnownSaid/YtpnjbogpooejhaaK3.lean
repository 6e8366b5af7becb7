import Derived.Test.YtpnjbogpooejhaaK2
namespace Go.Proofs.Ytpnjbogpooejhaa.H
open Go.RowKit Go.Proofs.Ytpnjbogpooejhaa.XH Go.Proofs.YtpnjbogpooejhaaW.PrintWords Go.Proofs.YtpnjbogpooejhaaW.PrintLast Go.Proofs.YtpnjbogpooejhaaW.PrintMore Go.Proofs.YtpnjbogpooejhaaXe Go.Proofs.YtpnjbogpooejhaaXs
set_option linter.unusedVariables false
set_option linter.unusedSimpArgs false
attribute [local go_sem ↓] Go.wp_at_zero Go.wp_at_succ
attribute [local go_sem] valUpon
attribute [local go_sem ↓ high] bn23
attribute [local go_sem high] BN23.run
attribute [local go_sem] max2_int min2_int max_two min_two max_three min_three max_four min_four
set_option maxHeartbeats 8000000 in
set_option maxRecDepth 100000 in
theorem c_parse (s : ByteArray) (hs : s.size ≤ 100000000000000) (w : World) : Calls Try.prog 11 #[.string s] w fun e w' => e = .returned (.tuple #[.agg (u8s (parS s).id).toArray, .agg #[.int .i64 (parS s).err, .int .i64 (parS s).at_]]) ∧ Below w.heap.size w w' := by
  have HS := Aside0.mk hs
  have HP := Aside0.mk (Hp.start w)
  clear hs
  go_enter Try.func11, Try.ntmps11
  go_wp2_with (first | ((with_reducible refine gate_dst (N := 2) rfl ?_); refine ev_alloc rfl 23 rfl (.agg (u8s z32).toArray) (by kernel_rfl) ?_; intro g_o wn1 hge hg hb; have HPn := Aside0.mk (HP.out.newB hb hg hge); clear HP; have HP := HPn; clear HPn; clear hge hg hb) | ((with_reducible refine gate_dst (N := 3) rfl ?_); refine ev_alloc rfl 27 rfl (.agg #[.int .i64 0, .int .i64 0]) (by kernel_rfl) ?_; intro g_f wn2 hge hg hb; have HPn := Aside0.mk (HP.out.newB hb hg hge); clear HP; have HP := HPn; clear HPn; clear hge hg hb) | ((with_reducible refine gate_dst (N := 4) rfl ?_); refine ev_alloc rfl 23 rfl (.agg (u8s z32).toArray) (by kernel_rfl) ?_; intro g_id wn3 hge hg hb; have HPn := Aside0.mk (HP.out.newB hb hg hge); clear HP; have HP := HPn; clear HPn; clear hge hg hb))
  have HP1 := Aside0.mk (show Hp w wn3 [.blk g_id (.cells (u8s (pidI s 0)).toArray 23 (0, 0)), .blk g_f (.cells #[.int .i64 0, .int .i64 0] 27 (0, 0)), .blk g_o (.cells (u8s z32).toArray 23 (0, 0))] from HP.out)
  clear HP
  go_loopg [5, 6, 9] s.size (fun kq v5 v6 v9 w' => ∃ (i : Nat) (x : Int), v9 = .int .i64 x ∧ Aside0 (x = (i : Int)) ∧ Aside0 (kq + i = s.size) ∧ Aside0 (parGo s kq i = parS s) ∧ Aside0 (Hp w w' [.blk g_id (.cells (u8s (pidI s i)).toArray 23 (0, 0)), .blk g_f (.cells #[.int .i64 0, .int .i64 0] 27 (0, 0)), .blk g_o (.cells (u8s z32).toArray 23 (0, 0))]))
  case atStart => exact ⟨0, 0, rfl, ⟨rfl⟩, ⟨rfl⟩, ⟨rfl⟩, HP1⟩
  clear HP1
  obtain ⟨i, x, rfl, HX, HK, HG, HP⟩ := hrel
  have hx := HX.out
  have hs := HS.out
  by_cases c1 : i < s.size
  · have d1 : decide (x < (s.size : Int)) = true := decide_eq_true (by omega)
    have px : 0 ≤ x := by omega
    have qx : x < (s.size : Int) := by omega
    have ex := i64k (x := x + 1) rfl (by omega)
    have hbt := bt_at s x
    obtain ⟨c, hc⟩ : ∃ c, bt s x = c := ⟨_, rfl⟩
    have hcr : 0 ≤ c ∧ c ≤ 255 := by rw [← hc]; exact bt_range s x
    rw [hc] at hbt
    obtain ⟨q, rfl⟩ : ∃ q, gk = q + 1 := ⟨gk - 1, by have := HK.out; omega⟩
    have hgo : (if plI c = 16 then (⟨z32, 4, i⟩ : Par) else parGo s q (i + 1)) = parS s := by rw [← HG.out, ← hc, hx]; rfl
    have HC1 := Aside0.mk c1
    have HC := Aside0.mk hc
    have hplr := plI_range c
    obtain ⟨p, hp⟩ : ∃ p, plI c = p := ⟨_, rfl⟩
    have hixb := ix_pl c hcr.1 hcr.2
    obtain ⟨m, hm⟩ : ∃ m, Lib.indexByte DG.data.toList c.toNat.toUInt8 = m := ⟨_, rfl⟩
    rw [hm, hp] at hixb
    have CP := Aside0.mk (fun w => c_ixb DG c w)
    rw [hm] at CP
    rw [hp] at hgo hplr
    have HPP := Aside0.mk (hp : plI c = p)
    by_cases c2 : p = 16
    · rw [if_pos c2] at hgo
      have hm1 : m = -1 := by rw [hixb, if_pos c2]
      have dm : decide (m < 0) = true := decide_eq_true (by omega)
      have HGO := Aside0.mk hgo
      clear hgo hp hc hcr hx hs c1 hplr hixb hm hm1
      go_wp2_with (first | (go_at_call 28; refine (CP.out _).mono ?_; rintro e w_ ⟨rfl, rfl⟩) | ((with_reducible refine gate_store (t := 23) (p := 2) rfl ?_); refine ev_store rfl 23 (.tmp 2) (.tmp 18) rfl rfl _ rfl (cells := (u8s z32).toArray) rfl (HP.out.blk 2 rfl) (by kernel_rfl) (by rfl) (one_u8 _) ?_; intro wn5 hg hgr; have HPn := Aside0.mk (HP.out.setB 2 rfl hgr hg); clear HP; have HP := HPn; clear HPn; clear hg hgr) | ((with_reducible refine gate_store (t := 27) (p := 3) rfl ?_); refine ev_store rfl 27 (.tmp 3) (.tmp 20) rfl rfl _ rfl (cells := #[.int .i64 4, .int .i64 x]) rfl (HP.out.blk 1 rfl) (by kernel_rfl) (by rfl) (by simp [Value.oneCell']) ?_; intro wn6 hg hgr; have HPn := Aside0.mk (HP.out.setB 1 rfl hgr hg); clear HP; have HP := HPn; clear HPn; clear hg hgr))
      rw [← HGO.out]
      refine bodyPost_ret (results_cells2 rfl _ _ rfl (HP.out.blk 2 rfl) Try.underlying23 rfl (by kernel_rfl) rfl (HP.out.blk 1 rfl) Try.underlying27 rfl (by kernel_rfl)) rfl ?_
      exact ⟨by rw [HX.out], HP.out.below⟩
    · rw [if_neg c2] at hgo
      have hm1 : p = m := by rw [hixb, if_neg c2]
      subst hm1
      have dm : decide (p < 0) = false := decide_eq_false (by omega)
      have HGO := Aside0.mk hgo
      have HP15 := Aside0.mk (show 0 ≤ p ∧ p < 16 by omega)
      by_cases c3 : i < 64
      · have d4 : decide (x < 64) = true := decide_eq_true (by omega)
        obtain ⟨y, hy⟩ : ∃ y, x / 2 = y := ⟨_, rfl⟩
        have ey : Int.tdiv x 2 = y := by rw [Int.tdiv_eq_ediv_of_nonneg (by omega)]; exact hy
        have y0 : 0 ≤ y := by omega
        have y1 : y < 32 := by omega
        obtain ⟨r, hr⟩ : ∃ r, rd (pidI s i) y = r := ⟨_, rfl⟩
        have hrb : 0 ≤ r ∧ r < 256 := by rw [← hr]; exact rd_byte (pidI_byte s i) y
        have hci := cellL (HP.out.blk 0 rfl) y y0 (by rw [pidI_len]; exact y1)
        rw [hr] at hci
        have hfi := frozC (HP.out.blk 0 rfl) y.toNat
        obtain ⟨v, hv⟩ : ∃ v, (r * 16 + p) % 256 = v := ⟨_, rfl⟩
        have e1 : p % 256 = p := by omega
        have e2 : Go.bits .or .u8 (r * 16 % 256) p = v := by
          rw [bits_join .u8 8 (by decide) (fun n a b => wraps_u8 n a b) 4 _ _ (by omega) (by omega) (by omega) (by omega) (by omega) (by omega)]; omega
        have e3 : Go.bits .or .u8 (shl .u8 r 4) p = v := by unfold shl; rw [IntKind.wrap_u8]; exact e2
        have HY := Aside0.mk (And.intro hy (And.intro hr hv))
        have HC3 := Aside0.mk c3
        clear hgo hp hc hcr hx hs c1 hplr c2 hy hr hv hrb c3 hixb hm
        go_wp2_with (first | (go_at_call 28; refine (CP.out _).mono ?_; rintro e w_ ⟨rfl, rfl⟩))
        have HPn := Aside0.mk (HP.out.setCell 0 rfl (i / 2) (.int .u8 v))
        have hyn : y.toNat = i / 2 := by have := HY.out.1; have := HX.out; omega
        have hpn : pidI s (i + 1) = (pidI s i).set (i / 2) v := by
          rw [pidI, if_pos HC3.out, ← HY.out.2.2, ← HPP.out, ← HC.out, ← HY.out.2.1, HX.out, show ((i / 2 : Nat) : Int) = y from by have := HY.out.1; have := HX.out; omega]
        rw [show (u8s (pidI s i)).toArray.setIfInBounds (i / 2) (.int .u8 v) = (u8s (pidI s (i + 1))).toArray from by rw [hpn]; exact setL (k := .u8) _ _ _, ← hyn] at HPn
        go_roundg (q)
        case measure => omega
        case rel => exact ⟨i + 1, x + 1, by simp, ⟨by have := HX.out; omega⟩, ⟨by have := HK.out; omega⟩, HGO, HPn⟩
      · have d4 : decide (x < 64) = false := decide_eq_false (by omega)
        have HC3 := Aside0.mk c3
        clear hgo hp hc hcr hx hs c1 hplr c2 c3 hixb hm
        go_wp2_with (first | (go_at_call 28; refine (CP.out _).mono ?_; rintro e w_ ⟨rfl, rfl⟩))
        have HPn := Aside0.mk (show Hp w _ [.blk g_id (.cells (u8s (pidI s (i + 1))).toArray 23 (0, 0)), .blk g_f (.cells #[.int .i64 0, .int .i64 0] 27 (0, 0)), .blk g_o (.cells (u8s z32).toArray 23 (0, 0))] from by rw [show pidI s (i + 1) = pidI s i from by rw [pidI, if_neg HC3.out]]; exact HP.out)
        go_roundg (q)
        case measure => omega
        case rel => exact ⟨i + 1, x + 1, by simp, ⟨by have := HX.out; omega⟩, ⟨by have := HK.out; omega⟩, HGO, HPn⟩
  · have d1 : decide (x < (s.size : Int)) = false := decide_eq_false (by omega)
    obtain rfl : gk = 0 := by have := HK.out; omega
    obtain rfl : i = s.size := by have := HK.out; omega
    have hgo : (if s.size = 64 then (⟨pidI s s.size, 0, 0⟩ : Par) else ⟨z32, 4, min s.size 64⟩) = parS s := HG.out
    by_cases c2 : s.size = 64
    · rw [if_pos c2] at hgo
      have HGO := Aside0.mk hgo
      have d2 : ((s.size : Int) != 64) = false := bne_eq_false_iff_eq.2 (by omega)
      clear hgo hx hs c1 c2
      go_wp2_with (first | ((with_reducible refine gate_dst (N := 43) rfl ?_); refine ev_load rfl 23 (.tmp 4) rfl g_id rfl (HP.out.blk 0 rfl) Try.underlying23 rfl (by rw [List.size_toArray, u8s_len, pidI_len]; kernel_rfl) ?_) | ((with_reducible refine gate_store (t := 23) (p := 2) rfl ?_); refine ev_store rfl 23 (.tmp 2) (.tmp 43) rfl rfl _ rfl (cells := (u8s (pidI s s.size)).toArray) rfl (HP.out.blk 2 rfl) (by rw [List.size_toArray, u8s_len, pidI_len]; kernel_rfl) (by rw [List.size_toArray, List.size_toArray, u8s_len, u8s_len, pidI_len]; rfl) (one_u8 _) ?_; intro wn5 hg hgr; have HPn := Aside0.mk (HP.out.setB 2 rfl hgr hg); clear HP; have HP := HPn; clear HPn; clear hg hgr) | ((with_reducible refine gate_store (t := 27) (p := 3) rfl ?_); refine ev_store rfl 27 (.tmp 3) (.tmp 44) rfl rfl _ rfl (cells := #[.int .i64 0, .int .i64 0]) rfl (HP.out.blk 1 rfl) (by kernel_rfl) (by rfl) (by simp [Value.oneCell']) ?_; intro wn6 hg hgr; have HPn := Aside0.mk (HP.out.setB 1 rfl hgr hg); clear HP; have HP := HPn; clear HPn; clear hg hgr))
      rw [← HGO.out]
      refine bodyPost_ret (results_cells2 rfl _ _ rfl (HP.out.blk 2 rfl) Try.underlying23 rfl (by rw [List.size_toArray, u8s_len, pidI_len]; kernel_rfl) rfl (HP.out.blk 1 rfl) Try.underlying27 rfl (by kernel_rfl)) rfl ?_
      exact ⟨rfl, HP.out.below⟩
    · rw [if_neg c2] at hgo
      have HGO := Aside0.mk hgo
      have d2 : ((s.size : Int) != 64) = true := bne_iff_ne.2 (by omega)
      have hlt : s.size < 64 ∨ 64 < s.size := by omega
      clear hgo hx hs c1 c2
      rcases hlt with hlt | hlt
      all_goals
        have HLT := Aside0.mk hlt
        have k1 : (s.size : Int) < 64 ∨ 64 < (s.size : Int) := by omega
        first | (have k2 : (s.size : Int) < 64 := by omega) | (have k2 : 64 < (s.size : Int) := by omega)
        first | (have k3 : ¬ (64 < (s.size : Int)) := by omega) | (have k3 : ¬ ((s.size : Int) < 64) := by omega)
        clear hlt k1
        go_wp2_with (first | ((with_reducible refine gate_store (t := 23) (p := 2) rfl ?_); refine ev_store rfl 23 (.tmp 2) (.tmp 38) rfl rfl _ rfl (cells := (u8s z32).toArray) rfl (HP.out.blk 2 rfl) (by kernel_rfl) (by rfl) (one_u8 _) ?_; intro wn5 hg hgr; have HPn := Aside0.mk (HP.out.setB 2 rfl hgr hg); clear HP; have HP := HPn; clear HPn; clear hg hgr) | ((with_reducible refine gate_store (t := 27) (p := 3) rfl ?_); refine ev_store rfl 27 (.tmp 3) (.tmp 42) rfl rfl _ rfl (cells := #[.int .i64 4, .int .i64 _]) rfl (HP.out.blk 1 rfl) (by kernel_rfl) (by rfl) (by simp [Value.oneCell']) ?_; intro wn6 hg hgr; have HPn := Aside0.mk (HP.out.setB 1 rfl hgr hg); clear HP; have HP := HPn; clear HPn; clear hg hgr))
        rw [← HGO.out]
        refine bodyPost_ret (results_cells2 rfl _ _ rfl (HP.out.blk 2 rfl) Try.underlying23 rfl (by kernel_rfl) rfl (HP.out.blk 1 rfl) Try.underlying27 rfl (by kernel_rfl)) rfl ?_
        refine ⟨?_, HP.out.below⟩
        have := HLT.out
        first | rw [Int.min_eq_left (by omega)] | rw [Int.min_eq_right (by omega)]
set_option maxHeartbeats 8000000 in
set_option maxRecDepth 100000 in
theorem c_rparse (s : ByteArray) (hs : s.size ≤ 100000000000000) (w : World) : Calls Try.prog 12 #[.string s] w fun e w' => e = .returned (.tuple #[.agg (u8s (parS s).id).toArray, .agg #[.int .i64 (parS s).err, .int .i64 (parS s).at_]]) ∧ Below w.heap.size w w' := by
  have HS := Aside0.mk hs
  have HP := Aside0.mk (Hp.start w)
  clear hs
  go_enter Try.func12, Try.ntmps12
  go_wp2_with (first | ((with_reducible refine gate_dst (N := 2) rfl ?_); refine ev_alloc rfl 23 rfl (.agg (u8s z32).toArray) (by kernel_rfl) ?_; intro g_o wn1 hge hg hb; have HPn := Aside0.mk (HP.out.newB hb hg hge); clear HP; have HP := HPn; clear HPn; clear hge hg hb) | ((with_reducible refine gate_dst (N := 3) rfl ?_); refine ev_alloc rfl 27 rfl (.agg #[.int .i64 0, .int .i64 0]) (by kernel_rfl) ?_; intro g_f wn2 hge hg hb; have HPn := Aside0.mk (HP.out.newB hb hg hge); clear HP; have HP := HPn; clear HPn; clear hge hg hb) | ((with_reducible refine gate_dst (N := 4) rfl ?_); refine ev_alloc rfl 23 rfl (.agg (u8s z32).toArray) (by kernel_rfl) ?_; intro g_id wn3 hge hg hb; have HPn := Aside0.mk (HP.out.newB hb hg hge); clear HP; have HP := HPn; clear HPn; clear hge hg hb))
  have HP1 := Aside0.mk (show Hp w wn3 [.blk g_id (.cells (u8s (pidI s 0)).toArray 23 (0, 0)), .blk g_f (.cells #[.int .i64 0, .int .i64 0] 27 (0, 0)), .blk g_o (.cells (u8s z32).toArray 23 (0, 0))] from HP.out)
  clear HP
  go_loopg [5, 6] s.size (fun kq v5 v6 w' => ∃ (i : Nat) (x : Int), v5 = .int .i64 x ∧ Aside0 (x = (i : Int)) ∧ Aside0 (kq + i = s.size) ∧ Aside0 (parGo s kq i = parS s) ∧ Aside0 (Hp w w' [.blk g_id (.cells (u8s (pidI s i)).toArray 23 (0, 0)), .blk g_f (.cells #[.int .i64 0, .int .i64 0] 27 (0, 0)), .blk g_o (.cells (u8s z32).toArray 23 (0, 0))]))
  case atStart => exact ⟨0, 0, rfl, ⟨rfl⟩, ⟨rfl⟩, ⟨rfl⟩, HP1⟩
  clear HP1
  obtain ⟨i, x, rfl, HX, HK, HG, HP⟩ := hrel
  have hx := HX.out
  have hs := HS.out
  by_cases c1 : i < s.size
  · have d1 : decide (x < (s.size : Int)) = true := decide_eq_true (by omega)
    have px : 0 ≤ x := by omega
    have qx : x < (s.size : Int) := by omega
    have ex := i64k (x := x + 1) rfl (by omega)
    have hbt := bt_at s x
    obtain ⟨c, hc⟩ : ∃ c, bt s x = c := ⟨_, rfl⟩
    have hcr : 0 ≤ c ∧ c ≤ 255 := by rw [← hc]; exact bt_range s x
    rw [hc] at hbt
    obtain ⟨q, rfl⟩ : ∃ q, gk = q + 1 := ⟨gk - 1, by have := HK.out; omega⟩
    have hgo : (if plI c = 16 then (⟨z32, 4, i⟩ : Par) else parGo s q (i + 1)) = parS s := by rw [← HG.out, ← hc, hx]; rfl
    have HC1 := Aside0.mk c1
    have HC := Aside0.mk hc
    have hplr := plI_range c
    have CP := Aside0.mk (fun w => retconref02_place.calls 20 c (plI c) w (place_pl c hcr.1 hcr.2))
    obtain ⟨p, hp⟩ : ∃ p, plI c = p := ⟨_, rfl⟩
    rw [hp] at CP hgo hplr
    have HPP := Aside0.mk (hp : plI c = p)
    by_cases c2 : p = 16
    · rw [if_pos c2] at hgo
      have d3 : (p == 16) = true := beq_iff_eq.2 c2
      have HGO := Aside0.mk hgo
      clear hgo hp hc hcr hx hs c1 hplr
      go_wp2_with (first | (go_at_call 29; refine (CP.out _).mono ?_; rintro e w_ ⟨rfl, n_, rfl⟩; have HPn := Aside0.mk (HP.out.drewN n_); clear HP; have HP := HPn; clear HPn) | ((with_reducible refine gate_store (t := 23) (p := 2) rfl ?_); refine ev_store rfl 23 (.tmp 2) (.tmp 19) rfl rfl _ rfl (cells := (u8s z32).toArray) rfl (HP.out.blk 2 rfl) (by kernel_rfl) (by rfl) (one_u8 _) ?_; intro wn5 hg hgr; have HPn := Aside0.mk (HP.out.setB 2 rfl hgr hg); clear HP; have HP := HPn; clear HPn; clear hg hgr) | ((with_reducible refine gate_store (t := 27) (p := 3) rfl ?_); refine ev_store rfl 27 (.tmp 3) (.tmp 21) rfl rfl _ rfl (cells := #[.int .i64 4, .int .i64 x]) rfl (HP.out.blk 1 rfl) (by kernel_rfl) (by rfl) (by simp [Value.oneCell']) ?_; intro wn6 hg hgr; have HPn := Aside0.mk (HP.out.setB 1 rfl hgr hg); clear HP; have HP := HPn; clear HPn; clear hg hgr))
      rw [← HGO.out]
      refine bodyPost_ret (results_cells2 rfl _ _ rfl (HP.out.blk 2 rfl) Try.underlying23 rfl (by kernel_rfl) rfl (HP.out.blk 1 rfl) Try.underlying27 rfl (by kernel_rfl)) rfl ?_
      exact ⟨by rw [HX.out], HP.out.below⟩
    · rw [if_neg c2] at hgo
      have d3 : (p == 16) = false := beq_eq_false_iff_ne.2 c2
      have HGO := Aside0.mk hgo
      have HP15 := Aside0.mk (show 0 ≤ p ∧ p < 16 by omega)
      by_cases c3 : i < 64
      · have d4 : decide (x < 64) = true := decide_eq_true (by omega)
        obtain ⟨y, hy⟩ : ∃ y, x / 2 = y := ⟨_, rfl⟩
        have ey : Int.tdiv x 2 = y := by rw [Int.tdiv_eq_ediv_of_nonneg (by omega)]; exact hy
        have y0 : 0 ≤ y := by omega
        have y1 : y < 32 := by omega
        obtain ⟨r, hr⟩ : ∃ r, rd (pidI s i) y = r := ⟨_, rfl⟩
        have hrb : 0 ≤ r ∧ r < 256 := by rw [← hr]; exact rd_byte (pidI_byte s i) y
        have hci := cellL (HP.out.blk 0 rfl) y y0 (by rw [pidI_len]; exact y1)
        rw [hr] at hci
        have hfi := frozC (HP.out.blk 0 rfl) y.toNat
        obtain ⟨v, hv⟩ : ∃ v, (r * 16 + p) % 256 = v := ⟨_, rfl⟩
        have e1 : IntKind.u8.wrap p = p := by rw [IntKind.wrap_u8]; omega
        have e2 : IntKind.u8.wrap (IntKind.u8.wrap (r * 16) + p) = v := by rw [IntKind.wrap_u8, IntKind.wrap_u8]; omega
        have e3 : (r * 16 % 256 + p) % 256 = v := by omega
        have e4 : p % 256 = p := by omega
        have HY := Aside0.mk (And.intro hy (And.intro hr hv))
        have HC3 := Aside0.mk c3
        clear hgo hp hc hcr hx hs c1 hplr c2 hy hr hv hrb c3
        go_wp2_with (first | (go_at_call 29; refine (CP.out _).mono ?_; rintro e w_ ⟨rfl, n_, rfl⟩; have HPn := Aside0.mk (HP.out.drewN n_); clear HP; have HP := HPn; clear HPn))
        have HPn := Aside0.mk (HP.out.setCell 0 rfl (i / 2) (.int .u8 v))
        have hyn : y.toNat = i / 2 := by have := HY.out.1; have := HX.out; omega
        have hpn : pidI s (i + 1) = (pidI s i).set (i / 2) v := by
          rw [pidI, if_pos HC3.out, ← HY.out.2.2, ← HPP.out, ← HC.out, ← HY.out.2.1, HX.out, show ((i / 2 : Nat) : Int) = y from by have := HY.out.1; have := HX.out; omega]
        rw [show (u8s (pidI s i)).toArray.setIfInBounds (i / 2) (.int .u8 v) = (u8s (pidI s (i + 1))).toArray from by rw [hpn]; exact setL (k := .u8) _ _ _, ← hyn] at HPn
        go_roundg (q)
        case measure => omega
        case rel => exact ⟨i + 1, x + 1, by simp, ⟨by have := HX.out; omega⟩, ⟨by have := HK.out; omega⟩, HGO, HPn⟩
      · have d4 : decide (x < 64) = false := decide_eq_false (by omega)
        have HC3 := Aside0.mk c3
        clear hgo hp hc hcr hx hs c1 hplr c2 c3
        go_wp2_with (first | (go_at_call 29; refine (CP.out _).mono ?_; rintro e w_ ⟨rfl, n_, rfl⟩; have HPn := Aside0.mk (HP.out.drewN n_); clear HP; have HP := HPn; clear HPn))
        have HPn := Aside0.mk (show Hp w _ [.blk g_id (.cells (u8s (pidI s (i + 1))).toArray 23 (0, 0)), .blk g_f (.cells #[.int .i64 0, .int .i64 0] 27 (0, 0)), .blk g_o (.cells (u8s z32).toArray 23 (0, 0))] from by rw [show pidI s (i + 1) = pidI s i from by rw [pidI, if_neg HC3.out]]; exact HP.out)
        go_roundg (q)
        case measure => omega
        case rel => exact ⟨i + 1, x + 1, by simp, ⟨by have := HX.out; omega⟩, ⟨by have := HK.out; omega⟩, HGO, HPn⟩
  · have d1 : decide (x < (s.size : Int)) = false := decide_eq_false (by omega)
    obtain rfl : gk = 0 := by have := HK.out; omega
    obtain rfl : i = s.size := by have := HK.out; omega
    have hgo : (if s.size = 64 then (⟨pidI s s.size, 0, 0⟩ : Par) else ⟨z32, 4, min s.size 64⟩) = parS s := HG.out
    by_cases c2 : s.size = 64
    · rw [if_pos c2] at hgo
      have HGO := Aside0.mk hgo
      have d2 : ((s.size : Int) != 64) = false := bne_eq_false_iff_eq.2 (by omega)
      clear hgo hx hs c1 c2
      go_wp2_with (first | ((with_reducible refine gate_dst (N := 43) rfl ?_); refine ev_load rfl 23 (.tmp 4) rfl g_id rfl (HP.out.blk 0 rfl) Try.underlying23 rfl (by rw [List.size_toArray, u8s_len, pidI_len]; kernel_rfl) ?_) | ((with_reducible refine gate_store (t := 23) (p := 2) rfl ?_); refine ev_store rfl 23 (.tmp 2) (.tmp 43) rfl rfl _ rfl (cells := (u8s (pidI s s.size)).toArray) rfl (HP.out.blk 2 rfl) (by rw [List.size_toArray, u8s_len, pidI_len]; kernel_rfl) (by rw [List.size_toArray, List.size_toArray, u8s_len, u8s_len, pidI_len]; rfl) (one_u8 _) ?_; intro wn5 hg hgr; have HPn := Aside0.mk (HP.out.setB 2 rfl hgr hg); clear HP; have HP := HPn; clear HPn; clear hg hgr) | ((with_reducible refine gate_store (t := 27) (p := 3) rfl ?_); refine ev_store rfl 27 (.tmp 3) (.tmp 44) rfl rfl _ rfl (cells := #[.int .i64 0, .int .i64 0]) rfl (HP.out.blk 1 rfl) (by kernel_rfl) (by rfl) (by simp [Value.oneCell']) ?_; intro wn6 hg hgr; have HPn := Aside0.mk (HP.out.setB 1 rfl hgr hg); clear HP; have HP := HPn; clear HPn; clear hg hgr))
      rw [← HGO.out]
      refine bodyPost_ret (results_cells2 rfl _ _ rfl (HP.out.blk 2 rfl) Try.underlying23 rfl (by rw [List.size_toArray, u8s_len, pidI_len]; kernel_rfl) rfl (HP.out.blk 1 rfl) Try.underlying27 rfl (by kernel_rfl)) rfl ?_
      exact ⟨rfl, HP.out.below⟩
    · rw [if_neg c2] at hgo
      have HGO := Aside0.mk hgo
      have d2 : ((s.size : Int) != 64) = true := bne_iff_ne.2 (by omega)
      have hlt : s.size < 64 ∨ 64 < s.size := by omega
      clear hgo hx hs c1 c2
      rcases hlt with hlt | hlt
      all_goals
        have HLT := Aside0.mk hlt
        have k1 : (s.size : Int) < 64 ∨ 64 < (s.size : Int) := by omega
        first | (have k2 : (s.size : Int) < 64 := by omega) | (have k2 : 64 < (s.size : Int) := by omega)
        first | (have k3 : ¬ (64 < (s.size : Int)) := by omega) | (have k3 : ¬ ((s.size : Int) < 64) := by omega)
        clear hlt k1
        go_wp2_with (first | ((with_reducible refine gate_store (t := 23) (p := 2) rfl ?_); refine ev_store rfl 23 (.tmp 2) (.tmp 38) rfl rfl _ rfl (cells := (u8s z32).toArray) rfl (HP.out.blk 2 rfl) (by kernel_rfl) (by rfl) (one_u8 _) ?_; intro wn5 hg hgr; have HPn := Aside0.mk (HP.out.setB 2 rfl hgr hg); clear HP; have HP := HPn; clear HPn; clear hg hgr) | ((with_reducible refine gate_store (t := 27) (p := 3) rfl ?_); refine ev_store rfl 27 (.tmp 3) (.tmp 42) rfl rfl _ rfl (cells := #[.int .i64 4, .int .i64 _]) rfl (HP.out.blk 1 rfl) (by kernel_rfl) (by rfl) (by simp [Value.oneCell']) ?_; intro wn6 hg hgr; have HPn := Aside0.mk (HP.out.setB 1 rfl hgr hg); clear HP; have HP := HPn; clear HPn; clear hg hgr))
        rw [← HGO.out]
        refine bodyPost_ret (results_cells2 rfl _ _ rfl (HP.out.blk 2 rfl) Try.underlying23 rfl (by kernel_rfl) rfl (HP.out.blk 1 rfl) Try.underlying27 rfl (by kernel_rfl)) rfl ?_
        refine ⟨?_, HP.out.below⟩
        have := HLT.out
        first | rw [Int.min_eq_left (by omega)] | rw [Int.min_eq_right (by omega)]
end Go.Proofs.Ytpnjbogpooejhaa.H
