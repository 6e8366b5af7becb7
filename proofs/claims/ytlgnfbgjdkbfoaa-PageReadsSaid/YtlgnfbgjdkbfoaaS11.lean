import Derived.Test.YtlgnfbgjdkbfoaaS10
import Derived.Test.YtlgnfbgjdkbfoaaS03
import Derived.Test.YtlgnfbgjdkbfoaaS05
namespace Go.Proofs.Ytlgnfbgjdkbfoaa.Pg
open Go.RowKit Go.Proofs.Ytlgnfbgjdkbfoaa.XH Go.Proofs.Ytlgnfbgjdkbfoaa.Wd Go.Proofs.YtlgnfbgjdkbfoaaW.PrintWords Go.Proofs.YtlgnfbgjdkbfoaaW.PrintLast Go.Proofs.YtlgnfbgjdkbfoaaW.PrintMore Go.Proofs.YtlgnfbgjdkbfoaaXe Go.Proofs.YtlgnfbgjdkbfoaaXs
set_option linter.unusedVariables false
set_option linter.unusedSimpArgs false
attribute [local go_sem ↓] Go.wp_at_zero Go.wp_at_succ
/-- a page's count -/
def countP (lv : Int) (l1 : List S55) (l2 : List S66) : Int := if lv = 0 then (l1.length : Int) else sumN l2
set_option maxHeartbeats 8000000 in
set_option maxRecDepth 100000 in
theorem c_leaf (A : Option Addr) (n c : Nat) (w : World) : Calls Try.prog 28 #[.slice A n c] w fun e w' => e = .returned (.agg #[.int .i64 0, .slice A n c, .slice none 0 0]) ∧ Below w.heap.size w w' := by
  have HP := Aside0.mk (Hp.start w)
  go_enter Try.func28, Try.ntmps28
  go_wp2_with (first | ((with_reducible refine gate_dst (N := 2) rfl ?_); refine ev_alloc rfl 27 rfl (.agg #[.int .i64 0, .slice none 0 0, .slice none 0 0]) (by kernel_rfl) ?_; intro g1 wa hge hg hb; have HPn := Aside0.mk (HP.out.newB hb hg hge); clear HP; have HP := HPn; clear HPn; clear hge hg hb) | ((with_reducible refine gate_store (t := 27) (p := 2) rfl ?_); refine ev_store rfl 27 (.tmp 2) (.tmp 4) rfl rfl _ rfl (cells := #[.int .i64 0, .slice A n c, .slice none 0 0]) rfl (HP.out.blk 0 rfl) (by kernel_rfl) rfl (by simp [Value.oneCell']) ?_; intro wb hg hgr; have HPn := Aside0.mk (HP.out.setB 0 rfl hgr hg); clear HP; have HP := HPn; clear HPn; clear hg hgr))
  refine bodyPost_ret (results_cell_row rfl _ _ g1 27 _ (0, 0) _ rfl (HP.out.blk 0 rfl) Try.underlying27 rfl (by kernel_rfl)) rfl ?_
  exact ⟨rfl, HP.out.below⟩
set_option maxHeartbeats 8000000 in
set_option maxRecDepth 100000 in
theorem c_count (lv : Int) (A1 : Option Addr) (c1 : Nat) (l1 : List S55) (A2 : Option Addr) (c2 : Nat) (l2 : List S66) (w : World) (h1 : k55.C w A1 l1.length l1) (h2 : k66.C w A2 l2.length l2) (hc1 : l1.length ≤ c1) (hc2 : l2.length ≤ c2) (hl1 : l1.length ≤ 1000000) (hl2 : l2.length ≤ 1000000) (hn : lv ≠ 0 → ∀ y ∈ l2, 1 ≤ y.f2 ∧ y.f2 ≤ 65536) :
    Calls Try.prog 47 #[.agg #[.int .i64 lv, .slice A1 l1.length c1, .slice A2 l2.length c2]] w fun e w' => e = .returned (.int .i64 (countP lv l1 l2)) ∧ Below w.heap.size w w' := by
  have H1 := Aside0.mk h1
  have H2 := Aside0.mk h2
  have HL := Aside0.mk (And.intro hl1 hl2)
  have HC := Aside0.mk (And.intro hc1 hc2)
  have HN := Aside0.mk hn
  clear h1 h2 hl1 hl2 hc1 hc2 hn
  have HP := Aside0.mk (Hp.start w)
  go_enter Try.func47, Try.ntmps47
  go_wp2_with (first | ((with_reducible refine gate_dst (N := 1) rfl ?_); refine ev_box rfl 27 (.tmp 0) rfl (#[.int .i64 lv, .slice A1 l1.length c1, .slice A2 l2.length c2]) rfl ?_; intro g1 wa hge hg hb; have HPn := Aside0.mk (HP.out.newB hb hg hge); clear HP; have HP := HPn; clear HPn; clear hge hg hb) | ((with_reducible refine gate_dst (N := 3) rfl ?_); refine ev_load rfl 27 (.tmp 1) rfl g1 rfl (HP.out.blk 0 rfl) Try.underlying27 rfl (by kernel_rfl) ?_))
  by_cases hlv : lv = 0
  · have HV := Aside0.mk hlv
    refine (c_of0 lv A1 c1 l1 A2 c2 l2 wa hlv (Kd.C_below H1.out HP.out.below) HL.out.1).mono ?_; rintro e wb ⟨vk, rfl, hR, hb⟩
    obtain ⟨Ak, ck, rfl⟩ := Kd.R_slice hR
    have HK := Aside0.mk (Kd.R_reads' hR)
    have HPn := Aside0.mk (HP.out.call hb)
    clear HP hR hb
    have HP := HPn
    clear HPn
    have hm : ∀ W, (method 258 111 (.agg #[.slice Ak l1.length ck, .slice A1 l1.length c1]) "retcon/page.count").run Try.prog W = .ok (122, .agg #[.slice Ak l1.length ck, .slice A1 l1.length c1]) W := fun _ => by kernel_rfl
    have CC := Aside0.mk (page_pairs_count.calls Ak ck (l1.map (·.f0)) A1 c1 l1 _ wb HK.out.2.2 HK.out.2.1 (Kd.C_below H1.out HP.out.below) HC.out.1 rfl)
    simp only [List.length_map] at CC
    go_wp2_with fail
    refine CC.out.mono ?_; rintro e wc ⟨rfl, hb⟩
    have HPn := Aside0.mk (HP.out.call hb)
    clear HP hb CC
    have HP := HPn
    clear HPn
    go_wp2_with fail
    go_ret
    exact ⟨by simp only [countP, if_pos hlv]; rfl, HP.out.below⟩
  · have HV := Aside0.mk hlv
    refine (c_of1 lv A1 c1 l1 A2 c2 l2 wa hlv (Kd.C_below H2.out HP.out.below) HL.out.2).mono ?_; rintro e wb ⟨vk, rfl, hR, hb⟩
    obtain ⟨Ak, ck, rfl⟩ := Kd.R_slice hR
    have HK := Aside0.mk (Kd.R_reads' hR)
    have HPn := Aside0.mk (HP.out.call hb)
    clear HP hR hb
    have HP := HPn
    clear HPn
    have hm : ∀ W, (method 258 113 (.agg #[.slice Ak l2.length ck, .slice A2 l2.length c2]) "retcon/page.count").run Try.prog W = .ok (124, .agg #[.slice Ak l2.length ck, .slice A2 l2.length c2]) W := fun _ => by kernel_rfl
    have CC := Aside0.mk (c_lcount Ak (l2.map (·.f0)).length ck A2 c2 l2 wb (Kd.C_below H2.out HP.out.below) (HN.out HV.out) HL.out.2)
    simp only [List.length_map] at CC
    go_wp2_with fail
    refine CC.out.mono ?_; rintro e wc ⟨rfl, hb⟩
    have HPn := Aside0.mk (HP.out.call hb)
    clear HP hb CC
    have HP := HPn
    clear HPn
    go_wp2_with fail
    go_ret
    exact ⟨by simp only [countP, if_neg hlv]; rfl, HP.out.below⟩
end Go.Proofs.Ytlgnfbgjdkbfoaa.Pg
namespace Go.Proofs.Ytlgnfbgjdkbfoaa.Pg
open Go.RowKit Go.Proofs.Ytlgnfbgjdkbfoaa.XH Go.Proofs.Ytlgnfbgjdkbfoaa.Wd Go.Proofs.YtlgnfbgjdkbfoaaW.PrintWords Go.Proofs.YtlgnfbgjdkbfoaaW.PrintLast Go.Proofs.YtlgnfbgjdkbfoaaW.PrintMore Go.Proofs.YtlgnfbgjdkbfoaaXe Go.Proofs.YtlgnfbgjdkbfoaaXs
set_option linter.unusedVariables false
set_option linter.unusedSimpArgs false
attribute [local go_sem ↓] Go.wp_at_zero Go.wp_at_succ
def xa : S55 := ⟨⟨#[97]⟩, ⟨#[49]⟩⟩
theorem awake_out : outB 0 [xa] [] = [0, 1, 1, 97, 1, 49] := by decide +kernel
theorem awake_page : pageS 0 [xa] [] = 0 := by decide +kernel
theorem awake_read : readP [0, 1, 1, 97, 1, 49] = ((0, [xa], []), (0, 0)) := by kernel_rfl
theorem awake_first : firstP 0 [xa] [] = ⟨#[97]⟩ := rfl
theorem awake_count : countP 0 [xa] [] = 1 := rfl
set_option maxHeartbeats 8000000 in
set_option maxRecDepth 100000 in
theorem c_awake (w : World) : Calls Try.prog 15 #[] w fun e w' => e = .returned (.bool true) ∧ Below w.heap.size w w' := by
  have HP := Aside0.mk (Hp.start w)
  go_enter Try.func15, Try.ntmps15
  go_wp2_with (first | ((with_reducible refine gate_dst (N := 7) rfl ?_); refine ev_lit (d := k55) HP.out 55 rfl (xs := [xa]) (inner := [.string ⟨#[97]⟩, .string ⟨#[49]⟩]) (N := 7) rfl ?hr7 (Reps.c2 (k55_mkM _ _ _ xa) (Reps.none _ _)) (by first | decide | simp) ?_; (case hr7 => first | (go_simp; done) | (go_simp; rfl)); intro v_l1 wq hpn; clear HP; have HP := Aside0.mk hpn; clear hpn; obtain ⟨A_l1, c_l1, rfl⟩ := Kd.R_slice (HP.out.row 0 rfl)))
  refine (c_leaf A_l1 1 c_l1 _).mono ?_; rintro e wa ⟨rfl, hb⟩
  have HPn := Aside0.mk (HP.out.call hb)
  clear HP hb
  have HP := HPn
  clear HPn
  go_wp2_with fail
  refine (c_bytes 0 A_l1 c_l1 [xa] none 0 [] _ (Kd.R_reads' (HP.out.row 0 rfl)).2.2 (Kd.R_reads' (Kd.R_nil k66 66 wa 0 (fun _ => True))).2.2 (Kd.R_reads' (HP.out.row 0 rfl)).2.1 (by decide) (by decide) (by decide) (by intro x hx; cases hx)).mono ?_
  rw [awake_out, awake_page]
  rintro e wb ⟨v_b, rfl, ho, hb⟩
  have HPn := Aside0.mk (HP.out.newR hb ho)
  clear HP ho hb
  have HP := HPn
  clear HPn
  obtain ⟨A_b, c_b, rfl⟩ := Kd.R_slice (HP.out.row 0 rfl)
  go_wp2_with (first | ((with_reducible refine gate_dst (N := 13) rfl ?_); refine ev_lit (d := Kd.int .u8) HP.out 5 rfl (xs := ([0, 1, 1, 97, 1, 49] : List Int)) (inner := [.int .u8 0, .int .u8 1, .int .u8 1, .int .u8 97, .int .u8 1, .int .u8 49]) (N := 13) rfl ?hr13 (reps_ints .u8 _ _ ([0, 1, 1, 97, 1, 49] : List Int)) (by first | decide | simp) ?_; (case hr13 => first | (go_simp; done) | (go_simp; rfl)); intro v_l2 wq hpn; clear HP; have HP := Aside0.mk hpn; clear hpn; obtain ⟨A_l2, c_l2, rfl⟩ := Kd.R_slice (HP.out.row 0 rfl)))
  refine (c_read HP.out A_l2 c_l2 [0, 1, 1, 97, 1, 49] (by decide) (by decide) (fun w' h => (Kd.R_reads' (h.row 0 rfl)).2.2)).mono ?_
  rw [awake_read]
  rintro e wc ⟨vp, vl, rfl, hpn⟩
  clear HP
  have HP := Aside0.mk hpn
  clear hpn
  obtain ⟨A_p, c_p, rfl⟩ := Kd.R_slice (HP.out.row 0 rfl)
  obtain ⟨A_q, c_q, rfl⟩ := Kd.R_slice (HP.out.row 1 rfl)
  go_wp2_with (first | ((with_reducible refine gate_dst (N := 3) rfl ?_); refine ev_alloc rfl 27 rfl (.agg #[.int .i64 0, .slice none 0 0, .slice none 0 0]) (by kernel_rfl) ?_; intro g3 wd hge hg hb; have HPn := Aside0.mk (HP.out.newB hb hg hge); clear HP; have HP := HPn; clear HPn; clear hge hg hb) | ((with_reducible refine gate_dst (N := 4) rfl ?_); refine ev_alloc rfl 30 rfl (.agg #[.int .i64 0, .int .i64 0]) (by kernel_rfl) ?_; intro g4 we hge hg hb; have HPn := Aside0.mk (HP.out.newB hb hg hge); clear HP; have HP := HPn; clear HPn; clear hge hg hb) | ((with_reducible refine gate_store (t := 27) (p := 3) rfl ?_); refine ev_store rfl 27 (.tmp 3) (.tmp 15) rfl rfl _ rfl (cells := #[.int .i64 0, .slice A_p 1 c_p, .slice A_q 0 c_q]) rfl (HP.out.blk 1 rfl) (by kernel_rfl) rfl (by simp [Value.oneCell']) ?_; intro wf hg hgr; have HPn := Aside0.mk (HP.out.setB 1 rfl hgr hg); clear HP; have HP := HPn; clear HPn; clear hg hgr) | ((with_reducible refine gate_store (t := 30) (p := 4) rfl ?_); refine ev_store rfl 30 (.tmp 4) (.tmp 16) rfl rfl _ rfl (cells := #[.int .i64 0, .int .i64 0]) rfl (HP.out.blk 0 rfl) (by kernel_rfl) rfl (by simp [Value.oneCell']) ?_; intro wg hg hgr; have HPn := Aside0.mk (HP.out.setB 0 rfl hgr hg); clear HP; have HP := HPn; clear HPn; clear hg hgr; have h4 : wg.cell? ⟨g4, 0, none⟩ = some (.int .i64 0) := blk_cell (HP.out.blk 0 rfl) 0) | ((with_reducible refine gate_dst (N := 26) rfl ?_); refine ev_lit (d := Kd.int .u8) HP.out 5 rfl (xs := ([0, 1, 1, 97, 1, 49] : List Int)) (inner := [.int .u8 0, .int .u8 1, .int .u8 1, .int .u8 97, .int .u8 1, .int .u8 49]) (N := 26) rfl ?hr26 (reps_ints .u8 _ _ ([0, 1, 1, 97, 1, 49] : List Int)) (by first | decide | simp) ?_; (case hr26 => first | (go_simp; done) | (go_simp; rfl)); intro v_l3 wq hpn; clear HP; have HP := Aside0.mk hpn; clear hpn; obtain ⟨A_l3, c_l3, rfl⟩ := Kd.R_slice (HP.out.row 0 rfl)))
  refine (retconkit_SameBytes.calls A_b c_b [0, 1, 1, 97, 1, 49] A_l3 c_l3 [0, 1, 1, 97, 1, 49] true _ (Kd.R_reads' (HP.out.row 6 rfl)).2.2 (Kd.R_reads' (HP.out.row 6 rfl)).2.1 (Kd.R_reads' (HP.out.row 0 rfl)).2.2 (Kd.R_reads' (HP.out.row 0 rfl)).2.1 (by decide +kernel)).mono ?_; rintro e w_ ⟨rfl, n5, rfl⟩
  have HPn := Aside0.mk (HP.out.drewN n5)
  clear HP h4
  have HP := HPn
  clear HPn
  go_wp2_with (first | ((with_reducible refine gate_dst (N := 30) rfl ?_); refine ev_load rfl 27 (.tmp 3) rfl g3 rfl (HP.out.blk 2 rfl) Try.underlying27 rfl (by kernel_rfl) ?_))
  refine (c_first 0 A_p c_p [xa] A_q c_q [] _ (Kd.R_reads' (HP.out.row 3 rfl)).2.2 (Kd.R_reads' (HP.out.row 4 rfl)).2.2 (Kd.R_reads' (HP.out.row 3 rfl)).2.1 (Kd.R_reads' (HP.out.row 4 rfl)).2.1 (by decide) (by decide)).mono ?_
  rw [awake_first]
  rintro e wk ⟨rfl, hb⟩
  have HPn := Aside0.mk (HP.out.call hb)
  clear HP hb
  have HP := HPn
  clear HPn
  go_wp2_with (first | ((with_reducible refine gate_dst (N := 35) rfl ?_); refine ev_load rfl 27 (.tmp 3) rfl g3 rfl (HP.out.blk 2 rfl) Try.underlying27 rfl (by kernel_rfl) ?_))
  refine (c_count 0 A_p c_p [xa] A_q c_q [] _ (Kd.R_reads' (HP.out.row 3 rfl)).2.2 (Kd.R_reads' (HP.out.row 4 rfl)).2.2 (Kd.R_reads' (HP.out.row 3 rfl)).2.1 (Kd.R_reads' (HP.out.row 4 rfl)).2.1 (by decide) (by decide) (fun h => absurd rfl h)).mono ?_
  rw [awake_count]
  rintro e wl ⟨rfl, hb⟩
  have HPn := Aside0.mk (HP.out.call hb)
  clear HP hb
  have HP := HPn
  clear HPn
  go_wp2_with fail
  go_ret
  exact ⟨rfl, HP.out.below⟩
end Go.Proofs.Ytlgnfbgjdkbfoaa.Pg
namespace Go.Proofs.Ytlgnfbgjdkbfoaa.Pg
open Go.RowKit Go.Proofs.Ytlgnfbgjdkbfoaa.XH Go.Proofs.Ytlgnfbgjdkbfoaa.Wd Go.Proofs.YtlgnfbgjdkbfoaaW.PrintWords Go.Proofs.YtlgnfbgjdkbfoaaW.PrintLast Go.Proofs.YtlgnfbgjdkbfoaaW.PrintMore Go.Proofs.YtlgnfbgjdkbfoaaXe Go.Proofs.YtlgnfbgjdkbfoaaXs
set_option linter.unusedVariables false
set_option linter.unusedSimpArgs false
attribute [local go_sem ↓] Go.wp_at_zero Go.wp_at_succ
theorem rlevel_f (lv : Int) : retconref17_level.f lv = some (lvOk lv) := by
  unfold retconref17_level.f lvOk
  by_cases h : 0 ≤ lv
  · rw [if_pos h, decide_eq_true h, Bool.true_and]
  · rw [if_neg h, decide_eq_false h, Bool.false_and]
end Go.Proofs.Ytlgnfbgjdkbfoaa.Pg


namespace Go.Proofs.Ytlgnfbgjdkbfoaa.Pg
open Go.RowKit Go.Proofs.Ytlgnfbgjdkbfoaa.XH Go.Proofs.Ytlgnfbgjdkbfoaa.Wd Go.Proofs.YtlgnfbgjdkbfoaaW.PrintWords Go.Proofs.YtlgnfbgjdkbfoaaW.PrintLast Go.Proofs.YtlgnfbgjdkbfoaaW.PrintMore Go.Proofs.YtlgnfbgjdkbfoaaXe Go.Proofs.YtlgnfbgjdkbfoaaXs
set_option linter.unusedVariables false
set_option linter.unusedSimpArgs false
attribute [local go_sem ↓] Go.wp_at_zero Go.wp_at_succ
theorem eq_fault (d : Nat) (a b a' b' : Int) (w : World) : (Op.equalIn (d + 2) 30 (.agg #[.int .i64 a, .int .i64 b]) (.agg #[.int .i64 a', .int .i64 b'])).run Try.prog w = .ok ((a == a') && (b == b')) w := by
  have h28 := Try.underlying28
  have h3 := Try.underlying3
  refine eqA_of Try.underlying30 (by kernel_rfl) ?_
  refine eqf_cons (by rfl) (by go_simp; rfl) (by go_simp; rfl) (by go_simp) ?_
  exact eqf_last (by rfl) (by go_simp; rfl) (by go_simp; rfl) (by go_simp)
end Go.Proofs.Ytlgnfbgjdkbfoaa.Pg
