import Derived.Test.YtlgnfbgjdkbfoaaQ09
import Derived.Test.YtlgnfbgjdkbfoaaQ03
import Derived.Test.YtlgnfbgjdkbfoaaQ05
namespace Go.Proofs.Ytlgnfbgjdkbfoaa.Pg
open Go.RowKit Go.Proofs.Ytlgnfbgjdkbfoaa.XH Go.Proofs.Ytlgnfbgjdkbfoaa.Wd Go.Proofs.YtlgnfbgjdkbfoaaW.PrintWords Go.Proofs.YtlgnfbgjdkbfoaaW.PrintLast Go.Proofs.YtlgnfbgjdkbfoaaW.PrintMore Go.Proofs.YtlgnfbgjdkbfoaaXe Go.Proofs.YtlgnfbgjdkbfoaaXs
set_option linter.unusedVariables false
set_option linter.unusedSimpArgs false
attribute [local go_sem ↓] Go.wp_at_zero Go.wp_at_succ
/-- a page's count -/
def countP (lv : Int) (l1 : List S55) (l2 : List S66) : Int := if lv = 0 then (l1.length : Int) else sumN l2
set_option maxHeartbeats 8000000 in
set_option maxRecDepth 100000 in
theorem c_leaf (A : Option Addr) (n c : Nat) (w : World) : Calls Try.prog 28 #[.slice A n c] w fun e w' => e = .returned (.agg #[.int .i64 0, .slice A n c, .slice none 0 0]) ∧ Below w.heap.size w w' := by
  have HP := Aside0.mk (Hp.start w)
  go_enter Try.func28, Try.ntmps28
  go_wp2_with (first | ((with_reducible refine gate_dst (N := 2) rfl ?_); refine ev_alloc rfl 27 rfl (.agg #[.int .i64 0, .slice none 0 0, .slice none 0 0]) (by kernel_rfl) ?_; intro g1 wa hge hg hb; have HPn := Aside0.mk (HP.out.newB hb hg hge); clear HP; have HP := HPn; clear HPn; clear hge hg hb) | ((with_reducible refine gate_store (t := 27) (p := 2) rfl ?_); refine ev_store rfl 27 (.tmp 2) (.tmp 4) rfl rfl _ rfl (cells := #[.int .i64 0, .slice A n c, .slice none 0 0]) rfl (HP.out.blk 0 rfl) (by kernel_rfl) rfl (by simp [Value.oneCell']) ?_; intro wb hg hgr; have HPn := Aside0.mk (HP.out.setB 0 rfl hgr hg); clear HP; have HP := HPn; clear HPn; clear hg hgr))
  refine bodyPost_ret (results_cell_row rfl _ _ g1 27 _ (0, 0) _ rfl (HP.out.blk 0 rfl) Try.underlying27 rfl (by kernel_rfl)) rfl ?_
  exact ⟨rfl, HP.out.below⟩
set_option maxHeartbeats 8000000 in
set_option maxRecDepth 100000 in
theorem c_count (lv : Int) (A1 : Option Addr) (c1 : Nat) (l1 : List S55) (A2 : Option Addr) (c2 : Nat) (l2 : List S66) (w : World) (h1 : k55.C w A1 l1.length l1) (h2 : k66.C w A2 l2.length l2) (hc1 : l1.length ≤ c1) (hc2 : l2.length ≤ c2) (hl1 : l1.length ≤ 1000000) (hl2 : l2.length ≤ 1000000) (hn : lv ≠ 0 → ∀ y ∈ l2, 1 ≤ y.f2 ∧ y.f2 ≤ 65536) :
    Calls Try.prog 47 #[.agg #[.int .i64 lv, .slice A1 l1.length c1, .slice A2 l2.length c2]] w fun e w' => e = .returned (.int .i64 (countP lv l1 l2)) ∧ Below w.heap.size w w' := by
  have H1 := Aside0.mk h1
  have H2 := Aside0.mk h2
  have HL := Aside0.mk (And.intro hl1 hl2)
  have HC := Aside0.mk (And.intro hc1 hc2)
  have HN := Aside0.mk hn
  clear h1 h2 hl1 hl2 hc1 hc2 hn
  have HP := Aside0.mk (Hp.start w)
  go_enter Try.func47, Try.ntmps47
  go_wp2_with (first | ((with_reducible refine gate_dst (N := 1) rfl ?_); refine ev_box rfl 27 (.tmp 0) rfl (#[.int .i64 lv, .slice A1 l1.length c1, .slice A2 l2.length c2]) rfl ?_; intro g1 wa hge hg hb; have HPn := Aside0.mk (HP.out.newB hb hg hge); clear HP; have HP := HPn; clear HPn; clear hge hg hb) | ((with_reducible refine gate_dst (N := 3) rfl ?_); refine ev_load rfl 27 (.tmp 1) rfl g1 rfl (HP.out.blk 0 rfl) Try.underlying27 rfl (by kernel_rfl) ?_))
  by_cases hlv : lv = 0
  · have HV := Aside0.mk hlv
    refine (c_of0 lv A1 c1 l1 A2 c2 l2 wa hlv (Kd.C_below H1.out HP.out.below) HL.out.1).mono ?_; rintro e wb ⟨vk, rfl, hR, hb⟩
    obtain ⟨Ak, ck, rfl⟩ := Kd.R_slice hR
    have HK := Aside0.mk (Kd.R_reads' hR)
    have HPn := Aside0.mk (HP.out.call hb)
    clear HP hR hb
    have HP := HPn
    clear HPn
    have hm : ∀ W, (method 258 111 (.agg #[.slice Ak l1.length ck, .slice A1 l1.length c1]) "retcon/page.count").run Try.prog W = .ok (122, .agg #[.slice Ak l1.length ck, .slice A1 l1.length c1]) W := fun _ => by kernel_rfl
    have CC := Aside0.mk (page_pairs_count.calls Ak ck (l1.map (·.f0)) A1 c1 l1 _ wb HK.out.2.2 HK.out.2.1 (Kd.C_below H1.out HP.out.below) HC.out.1 rfl)
    simp only [List.length_map] at CC
    go_wp2_with fail
    refine CC.out.mono ?_; rintro e wc ⟨rfl, hb⟩
    have HPn := Aside0.mk (HP.out.call hb)
    clear HP hb CC
    have HP := HPn
    clear HPn
    go_wp2_with fail
    go_ret
    exact ⟨by simp only [countP, if_pos hlv]; rfl, HP.out.below⟩
  · have HV := Aside0.mk hlv
    refine (c_of1 lv A1 c1 l1 A2 c2 l2 wa hlv (Kd.C_below H2.out HP.out.below) HL.out.2).mono ?_; rintro e wb ⟨vk, rfl, hR, hb⟩
    obtain ⟨Ak, ck, rfl⟩ := Kd.R_slice hR
    have HK := Aside0.mk (Kd.R_reads' hR)
    have HPn := Aside0.mk (HP.out.call hb)
    clear HP hR hb
    have HP := HPn
    clear HPn
    have hm : ∀ W, (method 258 113 (.agg #[.slice Ak l2.length ck, .slice A2 l2.length c2]) "retcon/page.count").run Try.prog W = .ok (124, .agg #[.slice Ak l2.length ck, .slice A2 l2.length c2]) W := fun _ => by kernel_rfl
    have CC := Aside0.mk (c_lcount Ak (l2.map (·.f0)).length ck A2 c2 l2 wb (Kd.C_below H2.out HP.out.below) (HN.out HV.out) HL.out.2)
    simp only [List.length_map] at CC
    go_wp2_with fail
    refine CC.out.mono ?_; rintro e wc ⟨rfl, hb⟩
    have HPn := Aside0.mk (HP.out.call hb)
    clear HP hb CC
    have HP := HPn
    clear HPn
    go_wp2_with fail
    go_ret
    exact ⟨by simp only [countP, if_neg hlv]; rfl, HP.out.below⟩
end Go.Proofs.Ytlgnfbgjdkbfoaa.Pg
namespace Go.Proofs.Ytlgnfbgjdkbfoaa.Pg
open Go.RowKit Go.Proofs.Ytlgnfbgjdkbfoaa.XH Go.Proofs.Ytlgnfbgjdkbfoaa.Wd Go.Proofs.YtlgnfbgjdkbfoaaW.PrintWords Go.Proofs.YtlgnfbgjdkbfoaaW.PrintLast Go.Proofs.YtlgnfbgjdkbfoaaW.PrintMore Go.Proofs.YtlgnfbgjdkbfoaaXe Go.Proofs.YtlgnfbgjdkbfoaaXs
set_option linter.unusedVariables false
set_option linter.unusedSimpArgs false
attribute [local go_sem ↓] Go.wp_at_zero Go.wp_at_succ
def xa : S55 := ⟨⟨#[97]⟩, ⟨#[49]⟩⟩
theorem awake_out : outB 0 [xa] [] = [0, 1, 1, 97, 1, 49] := by decide +kernel
theorem awake_page : pageS 0 [xa] [] = 0 := by decide +kernel
theorem awake_read : readP [0, 1, 1, 97, 1, 49] = ((0, [xa], []), (0, 0)) := by kernel_rfl
theorem awake_first : firstP 0 [xa] [] = ⟨#[97]⟩ := rfl
theorem awake_count : countP 0 [xa] [] = 1 := rfl
set_option maxHeartbeats 8000000 in
set_option maxRecDepth 100000 in
theorem c_awake (w : World) : Calls Try.prog 15 #[] w fun e w' => e = .returned (.bool true) ∧ Below w.heap.size w w' := by
  have HP := Aside0.mk (Hp.start w)
  go_enter Try.func15, Try.ntmps15
  go_wp2_with (first | ((with_reducible refine gate_dst (N := 7) rfl ?_); refine ev_lit (d := k55) HP.out 55 rfl (xs := [xa]) (inner := [.string ⟨#[97]⟩, .string ⟨#[49]⟩]) (N := 7) rfl ?hr7 (Reps.c2 (k55_mkM _ _ _ xa) (Reps.none _ _)) (by first | decide | simp) ?_; (case hr7 => first | (go_simp; done) | (go_simp; rfl)); intro v_l1 wq hpn; clear HP; have HP := Aside0.mk hpn; clear hpn; obtain ⟨A_l1, c_l1, rfl⟩ := Kd.R_slice (HP.out.row 0 rfl)))
  refine (c_leaf A_l1 1 c_l1 _).mono ?_; rintro e wa ⟨rfl, hb⟩
  have HPn := Aside0.mk (HP.out.call hb)
  clear HP hb
  have HP := HPn
  clear HPn
  go_wp2_with fail
  refine (c_bytes 0 A_l1 c_l1 [xa] none 0 [] _ (Kd.R_reads' (HP.out.row 0 rfl)).2.2 (Kd.R_reads' (Kd.R_nil k66 66 wa 0 (fun _ => True))).2.2 (Kd.R_reads' (HP.out.row 0 rfl)).2.1 (by decide) (by decide) (by decide) (by intro x hx; cases hx)).mono ?_
  rw [awake_out, awake_page]
  rintro e wb ⟨v_b, rfl, ho, hb⟩
  have HPn := Aside0.mk (HP.out.newR hb ho)
  clear HP ho hb
  have HP := HPn
  clear HPn
  obtain ⟨A_b, c_b, rfl⟩ := Kd.R_slice (HP.out.row 0 rfl)
  go_wp2_with (first | ((with_reducible refine gate_dst (N := 13) rfl ?_); refine ev_lit (d := Kd.int .u8) HP.out 5 rfl (xs := ([0, 1, 1, 97, 1, 49] : List Int)) (inner := [.int .u8 0, .int .u8 1, .int .u8 1, .int .u8 97, .int .u8 1, .int .u8 49]) (N := 13) rfl ?hr13 (reps_ints .u8 _ _ ([0, 1, 1, 97, 1, 49] : List Int)) (by first | decide | simp) ?_; (case hr13 => first | (go_simp; done) | (go_simp; rfl)); intro v_l2 wq hpn; clear HP; have HP := Aside0.mk hpn; clear hpn; obtain ⟨A_l2, c_l2, rfl⟩ := Kd.R_slice (HP.out.row 0 rfl)))
  refine (c_read HP.out A_l2 c_l2 [0, 1, 1, 97, 1, 49] (by decide) (by decide) (fun w' h => (Kd.R_reads' (h.row 0 rfl)).2.2)).mono ?_
  rw [awake_read]
  rintro e wc ⟨vp, vl, rfl, hpn⟩
  clear HP
  have HP := Aside0.mk hpn
  clear hpn
  obtain ⟨A_p, c_p, rfl⟩ := Kd.R_slice (HP.out.row 0 rfl)
  obtain ⟨A_q, c_q, rfl⟩ := Kd.R_slice (HP.out.row 1 rfl)
  go_wp2_with (first | ((with_reducible refine gate_dst (N := 3) rfl ?_); refine ev_alloc rfl 27 rfl (.agg #[.int .i64 0, .slice none 0 0, .slice none 0 0]) (by kernel_rfl) ?_; intro g3 wd hge hg hb; have HPn := Aside0.mk (HP.out.newB hb hg hge); clear HP; have HP := HPn; clear HPn; clear hge hg hb) | ((with_reducible refine gate_dst (N := 4) rfl ?_); refine ev_alloc rfl 30 rfl (.agg #[.int .i64 0, .int .i64 0]) (by kernel_rfl) ?_; intro g4 we hge hg hb; have HPn := Aside0.mk (HP.out.newB hb hg hge); clear HP; have HP := HPn; clear HPn; clear hge hg hb) | ((with_reducible refine gate_store (t := 27) (p := 3) rfl ?_); refine ev_store rfl 27 (.tmp 3) (.tmp 15) rfl rfl _ rfl (cells := #[.int .i64 0, .slice A_p 1 c_p, .slice A_q 0 c_q]) rfl (HP.out.blk 1 rfl) (by kernel_rfl) rfl (by simp [Value.oneCell']) ?_; intro wf hg hgr; have HPn := Aside0.mk (HP.out.setB 1 rfl hgr hg); clear HP; have HP := HPn; clear HPn; clear hg hgr) | ((with_reducible refine gate_store (t := 30) (p := 4) rfl ?_); refine ev_store rfl 30 (.tmp 4) (.tmp 16) rfl rfl _ rfl (cells := #[.int .i64 0, .int .i64 0]) rfl (HP.out.blk 0 rfl) (by kernel_rfl) rfl (by simp [Value.oneCell']) ?_; intro wg hg hgr; have HPn := Aside0.mk (HP.out.setB 0 rfl hgr hg); clear HP; have HP := HPn; clear HPn; clear hg hgr; have h4 : wg.cell? ⟨g4, 0, none⟩ = some (.int .i64 0) := blk_cell (HP.out.blk 0 rfl) 0) | ((with_reducible refine gate_dst (N := 26) rfl ?_); refine ev_lit (d := Kd.int .u8) HP.out 5 rfl (xs := ([0, 1, 1, 97, 1, 49] : List Int)) (inner := [.int .u8 0, .int .u8 1, .int .u8 1, .int .u8 97, .int .u8 1, .int .u8 49]) (N := 26) rfl ?hr26 (reps_ints .u8 _ _ ([0, 1, 1, 97, 1, 49] : List Int)) (by first | decide | simp) ?_; (case hr26 => first | (go_simp; done) | (go_simp; rfl)); intro v_l3 wq hpn; clear HP; have HP := Aside0.mk hpn; clear hpn; obtain ⟨A_l3, c_l3, rfl⟩ := Kd.R_slice (HP.out.row 0 rfl)))
  refine (retconkit_SameBytes.calls A_b c_b [0, 1, 1, 97, 1, 49] A_l3 c_l3 [0, 1, 1, 97, 1, 49] true _ (Kd.R_reads' (HP.out.row 6 rfl)).2.2 (Kd.R_reads' (HP.out.row 6 rfl)).2.1 (Kd.R_reads' (HP.out.row 0 rfl)).2.2 (Kd.R_reads' (HP.out.row 0 rfl)).2.1 (by decide +kernel)).mono ?_; rintro e w_ ⟨rfl, n5, rfl⟩
  have HPn := Aside0.mk (HP.out.drewN n5)
  clear HP h4
  have HP := HPn
  clear HPn
  go_wp2_with (first | ((with_reducible refine gate_dst (N := 30) rfl ?_); refine ev_load rfl 27 (.tmp 3) rfl g3 rfl (HP.out.blk 2 rfl) Try.underlying27 rfl (by kernel_rfl) ?_))
  refine (c_first 0 A_p c_p [xa] A_q c_q [] _ (Kd.R_reads' (HP.out.row 3 rfl)).2.2 (Kd.R_reads' (HP.out.row 4 rfl)).2.2 (Kd.R_reads' (HP.out.row 3 rfl)).2.1 (Kd.R_reads' (HP.out.row 4 rfl)).2.1 (by decide) (by decide)).mono ?_
  rw [awake_first]
  rintro e wk ⟨rfl, hb⟩
  have HPn := Aside0.mk (HP.out.call hb)
  clear HP hb
  have HP := HPn
  clear HPn
  go_wp2_with (first | ((with_reducible refine gate_dst (N := 35) rfl ?_); refine ev_load rfl 27 (.tmp 3) rfl g3 rfl (HP.out.blk 2 rfl) Try.underlying27 rfl (by kernel_rfl) ?_))
  refine (c_count 0 A_p c_p [xa] A_q c_q [] _ (Kd.R_reads' (HP.out.row 3 rfl)).2.2 (Kd.R_reads' (HP.out.row 4 rfl)).2.2 (Kd.R_reads' (HP.out.row 3 rfl)).2.1 (Kd.R_reads' (HP.out.row 4 rfl)).2.1 (by decide) (by decide) (fun h => absurd rfl h)).mono ?_
  rw [awake_count]
  rintro e wl ⟨rfl, hb⟩
  have HPn := Aside0.mk (HP.out.call hb)
  clear HP hb
  have HP := HPn
  clear HPn
  go_wp2_with fail
  go_ret
  exact ⟨rfl, HP.out.below⟩
end Go.Proofs.Ytlgnfbgjdkbfoaa.Pg
namespace Go.Proofs.Ytlgnfbgjdkbfoaa.Pg
open Go.RowKit Go.Proofs.Ytlgnfbgjdkbfoaa.XH Go.Proofs.Ytlgnfbgjdkbfoaa.Wd Go.Proofs.YtlgnfbgjdkbfoaaW.PrintWords Go.Proofs.YtlgnfbgjdkbfoaaW.PrintLast Go.Proofs.YtlgnfbgjdkbfoaaW.PrintMore Go.Proofs.YtlgnfbgjdkbfoaaXe Go.Proofs.YtlgnfbgjdkbfoaaXs
set_option linter.unusedVariables false
set_option linter.unusedSimpArgs false
attribute [local go_sem ↓] Go.wp_at_zero Go.wp_at_succ
/-- does a key end a page -/
noncomputable def endsS (k : ByteArray) (lv : Int) : Bool := lvOk lv && decide (rd (H.sha (lv :: bytesOf k)) 0 < 64)
theorem rlevel_f (lv : Int) : retconref17_level.f lv = some (lvOk lv) := by
  unfold retconref17_level.f lvOk
  by_cases h : 0 ≤ lv
  · rw [if_pos h, decide_eq_true h, Bool.true_and]
  · rw [if_neg h, decide_eq_false h, Bool.false_and]
set_option maxHeartbeats 8000000 in
set_option maxRecDepth 100000 in
theorem c_ends (k : ByteArray) (lv : Int) (hk : k.size ≤ 1000000) (w : World) :
    Calls Try.prog 25 #[.string k, .int .i64 lv] w fun e w' => e = .returned (.bool (endsS k lv)) ∧ Below w.heap.size w w' := by
  have HK := Aside0.mk hk
  have HP := Aside0.mk (Hp.start w)
  clear hk
  go_enter Try.func25, Try.ntmps25
  go_wp2_with fail
  refine (page_level.calls lv (lvOk lv) _ (level_f lv)).mono ?_; rintro e wf ⟨rfl, hd⟩
  obtain ⟨nd_, rfl⟩ := hd
  have HPn := Aside0.mk (HP.out.drewN nd_)
  clear HP
  have HP := HPn
  clear HPn
  generalize w.drewN nd_ = wf at HP ⊢
  by_cases ko : lvOk lv = true
  · rw [ko]
    have hlv : 0 ≤ lv ∧ lv ≤ 20 := by simp only [lvOk, Bool.and_eq_true, decide_eq_true_eq] at ko; exact ko
    have eu : IntKind.u8.wrap lv = lv := by unfold IntKind.wrap; simp [IntKind.bits, IntKind.signed]; omega
    obtain ⟨M, hM⟩ : ∃ M : List Int, [lv] ++ bytesOf k = M := ⟨_, rfl⟩
    have HE := Aside0.mk (show endsS k lv = decide (rd (H.sha M) 0 < 64) from by unfold endsS; rw [ko, ← hM]; rfl)
    have HML := Aside0.mk (show M.length ≤ 100000000000000 from by rw [← hM, List.length_append, bytesOf_length]; have := HK.out; simp only [List.length_cons, List.length_nil]; omega)
    have HMB := Aside0.mk (show H.Bytes M from by
      intro x hx
      rw [← hM] at hx
      rcases List.mem_append.1 hx with h | h
      · rw [List.mem_singleton] at h
        subst h
        omega
      · exact bytesOf_byte k x h)
    have hix : ∀ W, (Instr.index 63 (.agg (H.u8s (H.sha M)).toArray) (.int .i64 0)).run Try.prog W = .ok (.int .u8 (rd (H.sha M) 0)) W := fun W => H.run_index_arr Try.underlying63 Try.underlying5 (by kernel_rfl) (H.sha_len M) 0 (by decide) (by decide)
    clear hlv
    go_wp2_with (first | ((with_reducible refine gate_dst (N := 10) rfl ?_); refine ev_lit (d := Kd.int .u8) HP.out 5 rfl (xs := ([lv] : List Int)) (inner := [.int .u8 lv]) (N := 10) rfl ?hr10 (reps_ints .u8 _ _ [lv]) (by first | decide | simp) ?_; (case hr10 => first | (go_simp; done) | (go_simp; rfl)); intro v_b0 wq hpn; clear HP; have HP := Aside0.mk hpn; clear hpn; obtain ⟨A_b0, c_b0, rfl⟩ := Kd.R_slice (HP.out.row 0 rfl)) | ((with_reducible refine gate_dst (N := 12) rfl ?_); refine ev_append_str HP.out 0 rfl (.tmp 10) (.tmp 11) 22 9 5 rfl Try.underlying22 Try.underlying9 info8 (.slice A_b0 1 c_b0) [lv] k rfl rfl rfl (by have := HK.out; show 1 + k.size ≤ _; omega) ?_; intro v_a wq2 hpn; rw [hM] at hpn; clear HP; have HP := Aside0.mk hpn; clear hpn; obtain ⟨A3, c3, rfl⟩ := Kd.R_slice (HP.out.row 0 rfl)))
    refine (H.c_hsum A3 c3 M _ (Kd.R_reads' (HP.out.row 0 rfl)).2.2 (Kd.R_reads' (HP.out.row 0 rfl)).2.1 HML.out).mono ?_; rintro e wg ⟨rfl, hb⟩
    have HPn := Aside0.mk (HP.out.call hb)
    clear HP hb
    have HP := HPn
    clear HPn
    go_wp2_with fail
    go_ret
    exact ⟨by rw [HE.out]; rfl, HP.out.below⟩
  · have kf : lvOk lv = false := by simpa using ko
    rw [kf]
    go_wp2_with fail
    go_ret
    exact ⟨by unfold endsS; rw [kf]; rfl, HP.out.below⟩
set_option maxHeartbeats 8000000 in
set_option maxRecDepth 100000 in
theorem c_rends (k : ByteArray) (lv : Int) (hk : k.size ≤ 1000000) (w : World) :
    Calls Try.prog 26 #[.string k, .int .i64 lv] w fun e w' => e = .returned (.bool (endsS k lv)) ∧ Below w.heap.size w w' := by
  have HK := Aside0.mk hk
  have HP := Aside0.mk (Hp.start w)
  clear hk
  go_enter Try.func26, Try.ntmps26
  go_wp2_with fail
  refine (retconref17_level.calls lv (lvOk lv) _ (rlevel_f lv)).mono ?_; rintro e wf ⟨rfl, hd⟩
  obtain ⟨nd_, rfl⟩ := hd
  have HPn := Aside0.mk (HP.out.drewN nd_)
  clear HP
  have HP := HPn
  clear HPn
  generalize w.drewN nd_ = wf at HP ⊢
  by_cases ko : lvOk lv = true
  · rw [ko]
    have hlv : 0 ≤ lv ∧ lv ≤ 20 := by simp only [lvOk, Bool.and_eq_true, decide_eq_true_eq] at ko; exact ko
    have eu : IntKind.u8.wrap lv = lv := by unfold IntKind.wrap; simp [IntKind.bits, IntKind.signed]; omega
    obtain ⟨M, hM⟩ : ∃ M : List Int, [lv] ++ bytesOf k = M := ⟨_, rfl⟩
    have HE := Aside0.mk (show endsS k lv = decide (rd (H.sha M) 0 < 64) from by unfold endsS; rw [ko, ← hM]; rfl)
    have HML := Aside0.mk (show M.length ≤ 100000000000000 from by rw [← hM, List.length_append, bytesOf_length]; have := HK.out; simp only [List.length_cons, List.length_nil]; omega)
    have HMB := Aside0.mk (show H.Bytes M from by
      intro x hx
      rw [← hM] at hx
      rcases List.mem_append.1 hx with h | h
      · rw [List.mem_singleton] at h
        subst h
        omega
      · exact bytesOf_byte k x h)
    have hix : ∀ W, (Instr.index 63 (.agg (H.u8s (H.sha M)).toArray) (.int .i64 0)).run Try.prog W = .ok (.int .u8 (rd (H.sha M) 0)) W := fun W => H.run_index_arr Try.underlying63 Try.underlying5 (by kernel_rfl) (H.sha_len M) 0 (by decide) (by decide)
    clear hlv
    go_wp2_with (first | ((with_reducible refine gate_dst (N := 10) rfl ?_); refine ev_lit (d := Kd.int .u8) HP.out 5 rfl (xs := ([lv] : List Int)) (inner := [.int .u8 lv]) (N := 10) rfl ?hr10 (reps_ints .u8 _ _ [lv]) (by first | decide | simp) ?_; (case hr10 => first | (go_simp; done) | (go_simp; rfl)); intro v_b0 wq hpn; clear HP; have HP := Aside0.mk hpn; clear hpn; obtain ⟨A_b0, c_b0, rfl⟩ := Kd.R_slice (HP.out.row 0 rfl)) | ((with_reducible refine gate_dst (N := 12) rfl ?_); refine ev_append_str HP.out 0 rfl (.tmp 10) (.tmp 11) 22 9 5 rfl Try.underlying22 Try.underlying9 info8 (.slice A_b0 1 c_b0) [lv] k rfl rfl rfl (by have := HK.out; show 1 + k.size ≤ _; omega) ?_; intro v_a wq2 hpn; rw [hM] at hpn; clear HP; have HP := Aside0.mk hpn; clear hpn; obtain ⟨A3, c3, rfl⟩ := Kd.R_slice (HP.out.row 0 rfl)))
    refine (H.c_rsum A3 c3 M _ (Kd.R_reads' (HP.out.row 0 rfl)).2.2 (Kd.R_reads' (HP.out.row 0 rfl)).2.1 HML.out HMB.out).mono ?_; rintro e wg ⟨rfl, hb⟩
    have HPn := Aside0.mk (HP.out.call hb)
    clear HP hb
    have HP := HPn
    clear HPn
    go_wp2_with fail
    go_ret
    exact ⟨by rw [HE.out]; rfl, HP.out.below⟩
  · have kf : lvOk lv = false := by simpa using ko
    rw [kf]
    go_wp2_with fail
    go_ret
    exact ⟨by unfold endsS; rw [kf]; rfl, HP.out.below⟩
end Go.Proofs.Ytlgnfbgjdkbfoaa.Pg
namespace Go.Proofs.Ytlgnfbgjdkbfoaa.Pg
open Go.RowKit Go.Proofs.Ytlgnfbgjdkbfoaa.XH Go.Proofs.Ytlgnfbgjdkbfoaa.Wd Go.Proofs.YtlgnfbgjdkbfoaaW.PrintWords Go.Proofs.YtlgnfbgjdkbfoaaW.PrintLast Go.Proofs.YtlgnfbgjdkbfoaaW.PrintMore Go.Proofs.YtlgnfbgjdkbfoaaXe Go.Proofs.YtlgnfbgjdkbfoaaXs
set_option linter.unusedVariables false
set_option linter.unusedSimpArgs false
attribute [local go_sem ↓] Go.wp_at_zero Go.wp_at_succ
/-- does a page end with this key: it has n keys ahead of it -/
noncomputable def endB (lv : Int) (k : ByteArray) (last : Bool) (n : Nat) : Bool := decide (n + 1 = 16) || last || ((decide (0 < n) || decide (lv = 0)) && endsS k lv)
noncomputable def cutGo (lv : Int) : List ByteArray → Nat → List Int
  | [], _ => []
  | k :: rest, n => if endB lv k rest.isEmpty n = true then ((n : Int) + 1) :: cutGo lv rest 0 else cutGo lv rest (n + 1)
/-- where keys are cut -/
noncomputable def cutsS (l : List ByteArray) (lv : Int) : List Int := if lvOk lv = true then cutGo lv l 0 else []
theorem cutGo_at {lv : Int} {l : List ByteArray} {j n : Nat} {y : ByteArray} (h : l[j]? = some y) : cutGo lv (l.drop j) n = if endB lv y (decide (j + 1 = l.length)) n = true then ((n : Int) + 1) :: cutGo lv (l.drop (j + 1)) 0 else cutGo lv (l.drop (j + 1)) (n + 1) := by
  obtain ⟨h1, h2⟩ := List.getElem?_eq_some_iff.1 h
  rw [List.drop_eq_getElem_cons h1, h2, cutGo]
  have h3 : (l.drop (j + 1)).isEmpty = decide (j + 1 = l.length) := by
    have hl : (l.drop (j + 1)).length = l.length - (j + 1) := List.length_drop
    cases hd : l.drop (j + 1) with
    | nil =>
      rw [hd, List.length_nil] at hl
      rw [decide_eq_true (by omega)]
      rfl
    | cons a m =>
      rw [hd, List.length_cons] at hl
      rw [decide_eq_false (by omega)]
      rfl
  rw [h3]
set_option maxHeartbeats 8000000 in
set_option maxRecDepth 100000 in
theorem c_cuts (A : Option Addr) (c : Nat) (l : List ByteArray) (lv : Int) (w : World) (h1 : KS.C w A l.length l) (hl : l.length ≤ 1000) (hs : ∀ k ∈ l, k.size ≤ 1000000) :
    Calls Try.prog 23 #[.slice A l.length c, .int .i64 lv] w fun e w' => ∃ v, e = .returned v ∧ (Kd.int .i64).R 3 w' w.heap.size (fun _ => True) v (cutsS l lv) ∧ Below w.heap.size w w' := by
  have HR := Aside0.mk h1
  have HL := Aside0.mk hl
  have HS := Aside0.mk hs
  have hll : (l.length : Int) ≤ 1000 := by omega
  have HP := Aside0.mk (Hp.start w)
  clear h1 hl hs
  go_enter Try.func23, Try.ntmps23
  go_wp2_with fail
  refine (page_level.calls lv (lvOk lv) _ (level_f lv)).mono ?_; rintro e wf ⟨rfl, hd⟩
  obtain ⟨nd_, rfl⟩ := hd
  have HPn := Aside0.mk ((HP.out.drewN nd_).nilrow (Kd.int .i64) 3 (.slice none 0 0) (xs := []) (fun ok => Kd.R_nil _ _ _ _ _))
  clear HP
  have HP := HPn
  clear HPn
  generalize w.drewN nd_ = wf at HP ⊢
  by_cases ko : lvOk lv = true
  · rw [ko]
    have HC := Aside0.mk (show cutsS l lv = cutGo lv l 0 from by unfold cutsS; rw [if_pos ko])
    go_wp2_with fail
    go_loopg [5, 6, 14] l.length (fun kq v5 v6 vq w' => ∃ (j : Nat) (x : Int) (n : Nat) (ks : List Int) (vk : Value), v5 = vk ∧ v6 = .int .i64 (n : Int) ∧ vq = .int .i64 x ∧ Aside0 (x = (j : Int)) ∧ Aside0 (kq + j = l.length) ∧ Aside0 (ks.length + n ≤ j) ∧ Aside0 (ks ++ cutGo lv (l.drop j) n = cutGo lv l 0) ∧ Aside0 (Hp w w' [.row (Kd.int .i64) 3 w.heap.size vk ks]))
    case atStart => exact ⟨0, 0, 0, [], .slice none 0 0, rfl, rfl, rfl, ⟨rfl⟩, ⟨rfl⟩, ⟨Nat.le_refl _⟩, ⟨rfl⟩, HP⟩
    clear HP
    obtain ⟨j, x, n, ks, vk, rfl, rfl, rfl, HX, HK, HKL, HG, HP⟩ := hrel
    have hx := HX.out
    by_cases c1 : j < l.length
    · have d1 : decide (x < (l.length : Int)) = true := decide_eq_true (by omega)
      have ex : IntKind.i64.wrap (x + 1) = x + 1 := IntWalk.i64_in _ (by omega)
      have p0 : 0 ≤ x := by omega
      have q0 : x < (l.length : Int) := by omega
      have hkl := HKL.out
      have en : IntKind.i64.wrap ((n : Int) + 1) = (n : Int) + 1 := IntWalk.i64_in _ (by omega)
      have el : IntKind.i64.wrap ((l.length : Int) - 1) = (l.length : Int) - 1 := IntWalk.i64_in _ (by omega)
      obtain ⟨y, hy⟩ : ∃ p, l[j]? = some p := ⟨_, List.getElem?_eq_getElem c1⟩
      obtain ⟨Ab, Ao, rfl⟩ := C_addrK (by decide) HR.out (by omega)
      obtain ⟨cs, hcs, hra⟩ := range_K HR.out hy
      have hcs2 : cs = [.string y] := hcs
      subst hcs2
      have hxt : x.toNat = j := by omega
      have HYC := Aside0.mk (fun w' (hb : Below w.heap.size w w') => (show w'.cell? ⟨Ab, Ao + x.toNat, none⟩ = some (.string y) from by
        have h0 := hra 0 _ rfl
        have h0' : w.cell? ⟨Ab, Ao + x.toNat, none⟩ = some (.string y) := by rw [hxt]; simpa [show (Kd.string).sz = 1 from rfl] using h0
        exact (hb.cell (World.block_lt_of_cell? w _ h0')).trans h0'))
      have hyc := HYC.out _ HP.out.below
      have HY := Aside0.mk hy
      have HYS := Aside0.mk (HS.out y (List.mem_of_getElem? hy))
      have HCUT := Aside0.mk (cutGo_at (lv := lv) (n := n) hy)
      obtain ⟨Ak, ck, rfl⟩ := Kd.R_slice (HP.out.row 0 rfl)
      clear hy hcs hra
      by_cases h16 : n + 1 = 16
      · have f16 : decide ((n : Int) + 1 = 16) = true := decide_eq_true (by omega)
        have f16b : ((n : Int) + 1 == 16) = true := by simpa using (show  (n : Int) + 1 = 16 by omega)
        have HEND := Aside0.mk (show endB lv y (decide (j + 1 = l.length)) n = true from by unfold endB; rw [decide_eq_true h16]; rfl)
        clear h16 hx hkl hxt c1
        go_wp2_with (first | ((with_reducible refine gate_dst (N := 45) rfl ?_); refine ev_lit (d := Kd.int .i64) HP.out 3 rfl (xs := ([((n : Int) + 1)] : List Int)) (inner := [.int .i64 ((n : Int) + 1)]) (N := 45) rfl ?hr45 (reps_ints .i64 _ _ [((n : Int) + 1)]) (by first | decide | simp) ?_; (case hr45 => first | (go_simp; done) | (go_simp; rfl)); intro v_b0 wq hpn; clear HP; have HP := Aside0.mk hpn; clear hpn; obtain ⟨A_b0, c_b0, rfl⟩ := Kd.R_slice (HP.out.row 0 rfl)) | ((with_reducible refine gate_dst (N := 46) rfl ?_); refine ev_append (plain_int .i64) HP.out 1 rfl (.tmp 43) (.tmp 45) 47 3 (.int .i64 0) 8 rfl Try.underlying47 (by kernel_rfl) rfl (by decide) (by decide) (.slice Ak ks.length ck) ks [((n : Int) + 1)] A_b0 1 c_b0 rfl rfl rfl (Kd.R_reads' (HP.out.row 0 rfl)).2.2 (by have := HKL.out; have := HK.out; have := HL.out; omega) ?_; intro va wq2 hpn; clear HP; have HP := Aside0.mk hpn.drop1; clear hpn; obtain ⟨A3, c3, rfl⟩ := Kd.R_slice (HP.out.row 0 rfl); simp only [List.length_append, List.length_cons, List.length_nil, Nat.zero_add] at HP; (try simp only [List.length_append, List.length_cons, List.length_nil, Nat.zero_add])))
        go_roundg (gk - 1)
        case measure => have := HK.out; have := (List.getElem?_eq_some_iff.1 HY.out).1; omega
        case rel => exact ⟨j + 1, x + 1, 0, ks ++ [((n : Int) + 1)], .slice A3 (ks.length + 1) c3, rfl, rfl, rfl, ⟨by have := HX.out; omega⟩, ⟨by have := HK.out; have := (List.getElem?_eq_some_iff.1 HY.out).1; omega⟩, ⟨by simp only [List.length_append, List.length_cons, List.length_nil]; have := HKL.out; omega⟩, ⟨by have h := HG.out; rw [HCUT.out, if_pos HEND.out] at h; rw [List.append_assoc]; exact h⟩, HP⟩
      · have f16 : decide ((n : Int) + 1 = 16) = false := decide_eq_false (by omega)
        have f16b : ((n : Int) + 1 == 16) = false := by simpa using (show ¬ (n : Int) + 1 = 16 by omega)
        by_cases hla : j + 1 = l.length
        · have fl : decide (x = (l.length : Int) - 1) = true := decide_eq_true (by omega)
          have flb : (x == (l.length : Int) - 1) = true := by simpa using (show  x = (l.length : Int) - 1 by omega)
          have HEND := Aside0.mk (show endB lv y (decide (j + 1 = l.length)) n = true from by unfold endB; rw [decide_eq_true hla, Bool.or_true, Bool.true_or])
          clear h16 hla hx hkl hxt c1
          go_wp2_with (first | ((with_reducible refine gate_dst (N := 45) rfl ?_); refine ev_lit (d := Kd.int .i64) HP.out 3 rfl (xs := ([((n : Int) + 1)] : List Int)) (inner := [.int .i64 ((n : Int) + 1)]) (N := 45) rfl ?hr45 (reps_ints .i64 _ _ [((n : Int) + 1)]) (by first | decide | simp) ?_; (case hr45 => first | (go_simp; done) | (go_simp; rfl)); intro v_b0 wq hpn; clear HP; have HP := Aside0.mk hpn; clear hpn; obtain ⟨A_b0, c_b0, rfl⟩ := Kd.R_slice (HP.out.row 0 rfl)) | ((with_reducible refine gate_dst (N := 46) rfl ?_); refine ev_append (plain_int .i64) HP.out 1 rfl (.tmp 43) (.tmp 45) 47 3 (.int .i64 0) 8 rfl Try.underlying47 (by kernel_rfl) rfl (by decide) (by decide) (.slice Ak ks.length ck) ks [((n : Int) + 1)] A_b0 1 c_b0 rfl rfl rfl (Kd.R_reads' (HP.out.row 0 rfl)).2.2 (by have := HKL.out; have := HK.out; have := HL.out; omega) ?_; intro va wq2 hpn; clear HP; have HP := Aside0.mk hpn.drop1; clear hpn; obtain ⟨A3, c3, rfl⟩ := Kd.R_slice (HP.out.row 0 rfl); simp only [List.length_append, List.length_cons, List.length_nil, Nat.zero_add] at HP; (try simp only [List.length_append, List.length_cons, List.length_nil, Nat.zero_add])))
          go_roundg (gk - 1)
          case measure => have := HK.out; have := (List.getElem?_eq_some_iff.1 HY.out).1; omega
          case rel => exact ⟨j + 1, x + 1, 0, ks ++ [((n : Int) + 1)], .slice A3 (ks.length + 1) c3, rfl, rfl, rfl, ⟨by have := HX.out; omega⟩, ⟨by have := HK.out; have := (List.getElem?_eq_some_iff.1 HY.out).1; omega⟩, ⟨by simp only [List.length_append, List.length_cons, List.length_nil]; have := HKL.out; omega⟩, ⟨by have h := HG.out; rw [HCUT.out, if_pos HEND.out] at h; rw [List.append_assoc]; exact h⟩, HP⟩
        · have fl : decide (x = (l.length : Int) - 1) = false := decide_eq_false (by omega)
          have flb : (x == (l.length : Int) - 1) = false := by simpa using (show ¬ x = (l.length : Int) - 1 by omega)
          have HE2 := Aside0.mk (show endB lv y (decide (j + 1 = l.length)) n = ((decide (0 < n) || decide (lv = 0)) && endsS y lv) from by unfold endB; rw [decide_eq_false hla, decide_eq_false h16, Bool.or_false, Bool.false_or])
          clear hla
          by_cases hn1 : 0 < n
          · have fn1 : decide (1 < (n : Int) + 1) = true := decide_eq_true (by omega)
            have HOR := Aside0.mk (show (decide (0 < n) || decide (lv = 0)) = true from by rw [decide_eq_true hn1, Bool.true_or])
            clear hn1 h16 hx hkl hxt c1
            go_wp2_with fail
            refine (c_ends y lv HYS.out _).mono ?_; rintro e wg ⟨rfl, hb⟩
            have HPn := Aside0.mk (HP.out.call hb)
            clear HP hb
            have HP := HPn
            clear HPn
            cases he : endsS y lv with
            | true =>
              have HEND := Aside0.mk (show endB lv y (decide (j + 1 = l.length)) n = true from by rw [HE2.out, he, HOR.out]; rfl)
              go_wp2_with (first | ((with_reducible refine gate_dst (N := 45) rfl ?_); refine ev_lit (d := Kd.int .i64) HP.out 3 rfl (xs := ([((n : Int) + 1)] : List Int)) (inner := [.int .i64 ((n : Int) + 1)]) (N := 45) rfl ?hr45 (reps_ints .i64 _ _ [((n : Int) + 1)]) (by first | decide | simp) ?_; (case hr45 => first | (go_simp; done) | (go_simp; rfl)); intro v_b0 wq hpn; clear HP; have HP := Aside0.mk hpn; clear hpn; obtain ⟨A_b0, c_b0, rfl⟩ := Kd.R_slice (HP.out.row 0 rfl)) | ((with_reducible refine gate_dst (N := 46) rfl ?_); refine ev_append (plain_int .i64) HP.out 1 rfl (.tmp 43) (.tmp 45) 47 3 (.int .i64 0) 8 rfl Try.underlying47 (by kernel_rfl) rfl (by decide) (by decide) (.slice Ak ks.length ck) ks [((n : Int) + 1)] A_b0 1 c_b0 rfl rfl rfl (Kd.R_reads' (HP.out.row 0 rfl)).2.2 (by have := HKL.out; have := HK.out; have := HL.out; omega) ?_; intro va wq2 hpn; clear HP; have HP := Aside0.mk hpn.drop1; clear hpn; obtain ⟨A3, c3, rfl⟩ := Kd.R_slice (HP.out.row 0 rfl); simp only [List.length_append, List.length_cons, List.length_nil, Nat.zero_add] at HP; (try simp only [List.length_append, List.length_cons, List.length_nil, Nat.zero_add])))
              go_roundg (gk - 1)
              case measure => have := HK.out; have := (List.getElem?_eq_some_iff.1 HY.out).1; omega
              case rel => exact ⟨j + 1, x + 1, 0, ks ++ [((n : Int) + 1)], .slice A3 (ks.length + 1) c3, rfl, rfl, rfl, ⟨by have := HX.out; omega⟩, ⟨by have := HK.out; have := (List.getElem?_eq_some_iff.1 HY.out).1; omega⟩, ⟨by simp only [List.length_append, List.length_cons, List.length_nil]; have := HKL.out; omega⟩, ⟨by have h := HG.out; rw [HCUT.out, if_pos HEND.out] at h; rw [List.append_assoc]; exact h⟩, HP⟩
            | false =>
              have HEND := Aside0.mk (show endB lv y (decide (j + 1 = l.length)) n = false from by rw [HE2.out, he, Bool.and_false])
              have HNE := HKL
              go_wp2_with fail
              go_roundg (gk - 1)
              case measure => have := HK.out; have := (List.getElem?_eq_some_iff.1 HY.out).1; omega
              case rel => exact ⟨j + 1, x + 1, n + 1, ks, .slice Ak ks.length ck, by rfl, by push_cast; rfl, rfl, ⟨by have := HX.out; omega⟩, ⟨by have := HK.out; have := (List.getElem?_eq_some_iff.1 HY.out).1; omega⟩, ⟨by have := HKL.out; have := HNE.out; omega⟩, ⟨by have h := HG.out; rw [HCUT.out, if_neg (by rw [HEND.out]; decide)] at h; exact h⟩, HP⟩
          · have fn1 : decide (1 < (n : Int) + 1) = false := decide_eq_false (by omega)
            by_cases h0 : lv = 0
            · have f0 : decide (lv = 0) = true := decide_eq_true h0
              have f0b : (lv == 0) = true := by simpa using h0
              have HOR := Aside0.mk (show (decide (0 < n) || decide (lv = 0)) = true from by rw [decide_eq_true h0, Bool.or_true])
              clear hn1 h16 hx hkl hxt c1 h0
              go_wp2_with fail
              refine (c_ends y lv HYS.out _).mono ?_; rintro e wg ⟨rfl, hb⟩
              have HPn := Aside0.mk (HP.out.call hb)
              clear HP hb
              have HP := HPn
              clear HPn
              cases he : endsS y lv with
              | true =>
                have HEND := Aside0.mk (show endB lv y (decide (j + 1 = l.length)) n = true from by rw [HE2.out, he, HOR.out]; rfl)
                go_wp2_with (first | ((with_reducible refine gate_dst (N := 45) rfl ?_); refine ev_lit (d := Kd.int .i64) HP.out 3 rfl (xs := ([((n : Int) + 1)] : List Int)) (inner := [.int .i64 ((n : Int) + 1)]) (N := 45) rfl ?hr45 (reps_ints .i64 _ _ [((n : Int) + 1)]) (by first | decide | simp) ?_; (case hr45 => first | (go_simp; done) | (go_simp; rfl)); intro v_b0 wq hpn; clear HP; have HP := Aside0.mk hpn; clear hpn; obtain ⟨A_b0, c_b0, rfl⟩ := Kd.R_slice (HP.out.row 0 rfl)) | ((with_reducible refine gate_dst (N := 46) rfl ?_); refine ev_append (plain_int .i64) HP.out 1 rfl (.tmp 43) (.tmp 45) 47 3 (.int .i64 0) 8 rfl Try.underlying47 (by kernel_rfl) rfl (by decide) (by decide) (.slice Ak ks.length ck) ks [((n : Int) + 1)] A_b0 1 c_b0 rfl rfl rfl (Kd.R_reads' (HP.out.row 0 rfl)).2.2 (by have := HKL.out; have := HK.out; have := HL.out; omega) ?_; intro va wq2 hpn; clear HP; have HP := Aside0.mk hpn.drop1; clear hpn; obtain ⟨A3, c3, rfl⟩ := Kd.R_slice (HP.out.row 0 rfl); simp only [List.length_append, List.length_cons, List.length_nil, Nat.zero_add] at HP; (try simp only [List.length_append, List.length_cons, List.length_nil, Nat.zero_add])))
                go_roundg (gk - 1)
                case measure => have := HK.out; have := (List.getElem?_eq_some_iff.1 HY.out).1; omega
                case rel => exact ⟨j + 1, x + 1, 0, ks ++ [((n : Int) + 1)], .slice A3 (ks.length + 1) c3, rfl, rfl, rfl, ⟨by have := HX.out; omega⟩, ⟨by have := HK.out; have := (List.getElem?_eq_some_iff.1 HY.out).1; omega⟩, ⟨by simp only [List.length_append, List.length_cons, List.length_nil]; have := HKL.out; omega⟩, ⟨by have h := HG.out; rw [HCUT.out, if_pos HEND.out] at h; rw [List.append_assoc]; exact h⟩, HP⟩
              | false =>
                have HEND := Aside0.mk (show endB lv y (decide (j + 1 = l.length)) n = false from by rw [HE2.out, he, Bool.and_false])
                have HNE := HKL
                go_wp2_with fail
                go_roundg (gk - 1)
                case measure => have := HK.out; have := (List.getElem?_eq_some_iff.1 HY.out).1; omega
                case rel => exact ⟨j + 1, x + 1, n + 1, ks, .slice Ak ks.length ck, by rfl, by push_cast; rfl, rfl, ⟨by have := HX.out; omega⟩, ⟨by have := HK.out; have := (List.getElem?_eq_some_iff.1 HY.out).1; omega⟩, ⟨by have := HKL.out; have := HNE.out; omega⟩, ⟨by have h := HG.out; rw [HCUT.out, if_neg (by rw [HEND.out]; decide)] at h; exact h⟩, HP⟩
            · have f0 : decide (lv = 0) = false := decide_eq_false h0
              have f0b : (lv == 0) = false := by simpa using h0
              have HEND := Aside0.mk (show endB lv y (decide (j + 1 = l.length)) n = false from by rw [HE2.out, decide_eq_false h0, decide_eq_false hn1]; rfl)
              have HNE := HKL
              clear hn1 h16 hx hkl hxt c1 h0
              go_wp2_with fail
              go_roundg (gk - 1)
              case measure => have := HK.out; have := (List.getElem?_eq_some_iff.1 HY.out).1; omega
              case rel => exact ⟨j + 1, x + 1, n + 1, ks, .slice Ak ks.length ck, by rfl, by push_cast; rfl, rfl, ⟨by have := HX.out; omega⟩, ⟨by have := HK.out; have := (List.getElem?_eq_some_iff.1 HY.out).1; omega⟩, ⟨by have := HKL.out; have := HNE.out; omega⟩, ⟨by have h := HG.out; rw [HCUT.out, if_neg (by rw [HEND.out]; decide)] at h; exact h⟩, HP⟩
    · have d1 : decide (x < (l.length : Int)) = false := decide_eq_false (by omega)
      have HE := Aside0.mk (show ks = cutsS l lv from by
        have h := HG.out
        rw [List.drop_of_length_le (by omega), cutGo, List.append_nil] at h
        rw [h, HC.out])
      clear hx c1
      go_wp2_with fail
      go_ret
      exact ⟨_, rfl, by rw [← HE.out]; exact HP.out.row 0 rfl, HP.out.below⟩
  · have kf : lvOk lv = false := by simpa using ko
    rw [kf]
    have HC := Aside0.mk (show cutsS l lv = [] from by unfold cutsS; rw [if_neg ko])
    go_wp2_with fail
    go_ret
    exact ⟨_, rfl, by rw [HC.out]; exact HP.out.row 0 rfl, HP.out.below⟩
end Go.Proofs.Ytlgnfbgjdkbfoaa.Pg
namespace Go.Proofs.Ytlgnfbgjdkbfoaa.Pg
open Go.RowKit Go.Proofs.Ytlgnfbgjdkbfoaa.XH Go.Proofs.Ytlgnfbgjdkbfoaa.Wd Go.Proofs.YtlgnfbgjdkbfoaaW.PrintWords Go.Proofs.YtlgnfbgjdkbfoaaW.PrintLast Go.Proofs.YtlgnfbgjdkbfoaaW.PrintMore Go.Proofs.YtlgnfbgjdkbfoaaXe Go.Proofs.YtlgnfbgjdkbfoaaXs
set_option linter.unusedVariables false
set_option linter.unusedSimpArgs false
attribute [local go_sem ↓] Go.wp_at_zero Go.wp_at_succ
set_option maxHeartbeats 8000000 in
set_option maxRecDepth 100000 in
theorem c_rcuts (A : Option Addr) (c : Nat) (l : List ByteArray) (lv : Int) (w : World) (h1 : KS.C w A l.length l) (hl : l.length ≤ 1000) (hs : ∀ k ∈ l, k.size ≤ 1000000) :
    Calls Try.prog 24 #[.slice A l.length c, .int .i64 lv] w fun e w' => ∃ v, e = .returned v ∧ (Kd.int .i64).R 3 w' w.heap.size (fun _ => True) v (cutsS l lv) ∧ Below w.heap.size w w' := by
  have HR := Aside0.mk h1
  have HL := Aside0.mk hl
  have HS := Aside0.mk hs
  have hll : (l.length : Int) ≤ 1000 := by omega
  have HP := Aside0.mk (Hp.start w)
  clear h1 hl hs
  go_enter Try.func24, Try.ntmps24
  go_wp2_with fail
  refine (retconref17_level.calls lv (lvOk lv) _ (rlevel_f lv)).mono ?_; rintro e wf ⟨rfl, hd⟩
  obtain ⟨nd_, rfl⟩ := hd
  have HPn := Aside0.mk ((HP.out.drewN nd_).nilrow (Kd.int .i64) 3 (.slice none 0 0) (xs := []) (fun ok => Kd.R_nil _ _ _ _ _))
  clear HP
  have HP := HPn
  clear HPn
  generalize w.drewN nd_ = wf at HP ⊢
  by_cases ko : lvOk lv = true
  · rw [ko]
    have HC := Aside0.mk (show cutsS l lv = cutGo lv l 0 from by unfold cutsS; rw [if_pos ko])
    go_wp2_with fail
    go_loopg [5, 6, 7] l.length (fun kq v5 v6 vq w' => ∃ (j : Nat) (x : Int) (n : Nat) (ks : List Int) (vk : Value), v5 = vk ∧ v6 = .int .i64 (n : Int) ∧ vq = .int .i64 x ∧ Aside0 (x = (j : Int)) ∧ Aside0 (kq + j = l.length) ∧ Aside0 (ks.length + n ≤ j) ∧ Aside0 (ks ++ cutGo lv (l.drop j) n = cutGo lv l 0) ∧ Aside0 (Hp w w' [.row (Kd.int .i64) 3 w.heap.size vk ks]))
    case atStart => exact ⟨0, 0, 0, [], .slice none 0 0, rfl, rfl, rfl, ⟨rfl⟩, ⟨rfl⟩, ⟨Nat.le_refl _⟩, ⟨rfl⟩, HP⟩
    clear HP
    obtain ⟨j, x, n, ks, vk, rfl, rfl, rfl, HX, HK, HKL, HG, HP⟩ := hrel
    have hx := HX.out
    by_cases c1 : j < l.length
    · have d1 : decide (x < (l.length : Int)) = true := decide_eq_true (by omega)
      have ex : IntKind.i64.wrap (x + 1) = x + 1 := IntWalk.i64_in _ (by omega)
      have p0 : 0 ≤ x := by omega
      have q0 : x < (l.length : Int) := by omega
      have hkl := HKL.out
      have en : IntKind.i64.wrap ((n : Int) + 1) = (n : Int) + 1 := IntWalk.i64_in _ (by omega)
      have el : IntKind.i64.wrap ((l.length : Int) - 1) = (l.length : Int) - 1 := IntWalk.i64_in _ (by omega)
      obtain ⟨y, hy⟩ : ∃ p, l[j]? = some p := ⟨_, List.getElem?_eq_getElem c1⟩
      obtain ⟨Ab, Ao, rfl⟩ := C_addrK (by decide) HR.out (by omega)
      obtain ⟨cs, hcs, hra⟩ := range_K HR.out hy
      have hcs2 : cs = [.string y] := hcs
      subst hcs2
      have hxt : x.toNat = j := by omega
      have HYC := Aside0.mk (fun w' (hb : Below w.heap.size w w') => (show w'.cell? ⟨Ab, Ao + x.toNat, none⟩ = some (.string y) from by
        have h0 := hra 0 _ rfl
        have h0' : w.cell? ⟨Ab, Ao + x.toNat, none⟩ = some (.string y) := by rw [hxt]; simpa [show (Kd.string).sz = 1 from rfl] using h0
        exact (hb.cell (World.block_lt_of_cell? w _ h0')).trans h0'))
      have hyc := HYC.out _ HP.out.below
      have HY := Aside0.mk hy
      have HYS := Aside0.mk (HS.out y (List.mem_of_getElem? hy))
      have HCUT := Aside0.mk (cutGo_at (lv := lv) (n := n) hy)
      obtain ⟨Ak, ck, rfl⟩ := Kd.R_slice (HP.out.row 0 rfl)
      clear hy hcs hra
      by_cases h16 : n + 1 = 16
      · have f16 : decide ((n : Int) + 1 = 16) = true := decide_eq_true (by omega)
        have f16b : ((n : Int) + 1 == 16) = true := by simpa using (show  (n : Int) + 1 = 16 by omega)
        have HEND := Aside0.mk (show endB lv y (decide (j + 1 = l.length)) n = true from by unfold endB; rw [decide_eq_true h16]; rfl)
        clear h16 hx hkl hxt c1
        go_wp2_with (first | ((with_reducible refine gate_dst (N := 46) rfl ?_); refine ev_lit (d := Kd.int .i64) HP.out 3 rfl (xs := ([((n : Int) + 1)] : List Int)) (inner := [.int .i64 ((n : Int) + 1)]) (N := 46) rfl ?hr46 (reps_ints .i64 _ _ [((n : Int) + 1)]) (by first | decide | simp) ?_; (case hr46 => first | (go_simp; done) | (go_simp; rfl)); intro v_b0 wq hpn; clear HP; have HP := Aside0.mk hpn; clear hpn; obtain ⟨A_b0, c_b0, rfl⟩ := Kd.R_slice (HP.out.row 0 rfl)) | ((with_reducible refine gate_dst (N := 47) rfl ?_); refine ev_append (plain_int .i64) HP.out 1 rfl (.tmp 44) (.tmp 46) 47 3 (.int .i64 0) 8 rfl Try.underlying47 (by kernel_rfl) rfl (by decide) (by decide) (.slice Ak ks.length ck) ks [((n : Int) + 1)] A_b0 1 c_b0 rfl rfl rfl (Kd.R_reads' (HP.out.row 0 rfl)).2.2 (by have := HKL.out; have := HK.out; have := HL.out; omega) ?_; intro va wq2 hpn; clear HP; have HP := Aside0.mk hpn.drop1; clear hpn; obtain ⟨A3, c3, rfl⟩ := Kd.R_slice (HP.out.row 0 rfl); simp only [List.length_append, List.length_cons, List.length_nil, Nat.zero_add] at HP; (try simp only [List.length_append, List.length_cons, List.length_nil, Nat.zero_add])))
        go_roundg (gk - 1)
        case measure => have := HK.out; have := (List.getElem?_eq_some_iff.1 HY.out).1; omega
        case rel => exact ⟨j + 1, x + 1, 0, ks ++ [((n : Int) + 1)], .slice A3 (ks.length + 1) c3, rfl, rfl, rfl, ⟨by have := HX.out; omega⟩, ⟨by have := HK.out; have := (List.getElem?_eq_some_iff.1 HY.out).1; omega⟩, ⟨by simp only [List.length_append, List.length_cons, List.length_nil]; have := HKL.out; omega⟩, ⟨by have h := HG.out; rw [HCUT.out, if_pos HEND.out] at h; rw [List.append_assoc]; exact h⟩, HP⟩
      · have f16 : decide ((n : Int) + 1 = 16) = false := decide_eq_false (by omega)
        have f16b : ((n : Int) + 1 == 16) = false := by simpa using (show ¬ (n : Int) + 1 = 16 by omega)
        have HEB := Aside0.mk (show endB lv y (decide (j + 1 = l.length)) n = (decide (j + 1 = l.length) || ((decide (0 < n) || decide (lv = 0)) && endsS y lv)) from by unfold endB; rw [decide_eq_false h16, Bool.false_or])
        clear hx hxt
        go_wp2_with fail
        refine (c_rends y lv HYS.out _).mono ?_; rintro e wg ⟨rfl, hb⟩
        have HPn := Aside0.mk (HP.out.call hb)
        clear HP hb
        have HP := HPn
        clear HPn
        have hx := HX.out
        cases he : endsS y lv with
        | true =>
          by_cases hn1 : 0 < n
          · have fn1 : decide (1 < (n : Int) + 1) = true := decide_eq_true (by omega)
            have HEND := Aside0.mk (show endB lv y (decide (j + 1 = l.length)) n = true from by rw [HEB.out, he, decide_eq_true hn1, Bool.true_or, Bool.true_and, Bool.or_true])
            clear hn1 h16 hx hkl c1
            go_wp2_with (first | ((with_reducible refine gate_dst (N := 46) rfl ?_); refine ev_lit (d := Kd.int .i64) HP.out 3 rfl (xs := ([((n : Int) + 1)] : List Int)) (inner := [.int .i64 ((n : Int) + 1)]) (N := 46) rfl ?hr46 (reps_ints .i64 _ _ [((n : Int) + 1)]) (by first | decide | simp) ?_; (case hr46 => first | (go_simp; done) | (go_simp; rfl)); intro v_b0 wq hpn; clear HP; have HP := Aside0.mk hpn; clear hpn; obtain ⟨A_b0, c_b0, rfl⟩ := Kd.R_slice (HP.out.row 0 rfl)) | ((with_reducible refine gate_dst (N := 47) rfl ?_); refine ev_append (plain_int .i64) HP.out 1 rfl (.tmp 44) (.tmp 46) 47 3 (.int .i64 0) 8 rfl Try.underlying47 (by kernel_rfl) rfl (by decide) (by decide) (.slice Ak ks.length ck) ks [((n : Int) + 1)] A_b0 1 c_b0 rfl rfl rfl (Kd.R_reads' (HP.out.row 0 rfl)).2.2 (by have := HKL.out; have := HK.out; have := HL.out; omega) ?_; intro va wq2 hpn; clear HP; have HP := Aside0.mk hpn.drop1; clear hpn; obtain ⟨A3, c3, rfl⟩ := Kd.R_slice (HP.out.row 0 rfl); simp only [List.length_append, List.length_cons, List.length_nil, Nat.zero_add] at HP; (try simp only [List.length_append, List.length_cons, List.length_nil, Nat.zero_add])))
            go_roundg (gk - 1)
            case measure => have := HK.out; have := (List.getElem?_eq_some_iff.1 HY.out).1; omega
            case rel => exact ⟨j + 1, x + 1, 0, ks ++ [((n : Int) + 1)], .slice A3 (ks.length + 1) c3, rfl, rfl, rfl, ⟨by have := HX.out; omega⟩, ⟨by have := HK.out; have := (List.getElem?_eq_some_iff.1 HY.out).1; omega⟩, ⟨by simp only [List.length_append, List.length_cons, List.length_nil]; have := HKL.out; omega⟩, ⟨by have h := HG.out; rw [HCUT.out, if_pos HEND.out] at h; rw [List.append_assoc]; exact h⟩, HP⟩
          · have fn1 : decide (1 < (n : Int) + 1) = false := decide_eq_false (by omega)
            by_cases h0 : lv = 0
            · have f0 : decide (lv = 0) = true := decide_eq_true h0
              have f0b : (lv == 0) = true := by simpa using h0
              have HEND := Aside0.mk (show endB lv y (decide (j + 1 = l.length)) n = true from by rw [HEB.out, he, decide_eq_true h0, Bool.or_true, Bool.true_and, Bool.or_true])
              clear hn1 h16 hx hkl c1 h0
              go_wp2_with (first | ((with_reducible refine gate_dst (N := 46) rfl ?_); refine ev_lit (d := Kd.int .i64) HP.out 3 rfl (xs := ([((n : Int) + 1)] : List Int)) (inner := [.int .i64 ((n : Int) + 1)]) (N := 46) rfl ?hr46 (reps_ints .i64 _ _ [((n : Int) + 1)]) (by first | decide | simp) ?_; (case hr46 => first | (go_simp; done) | (go_simp; rfl)); intro v_b0 wq hpn; clear HP; have HP := Aside0.mk hpn; clear hpn; obtain ⟨A_b0, c_b0, rfl⟩ := Kd.R_slice (HP.out.row 0 rfl)) | ((with_reducible refine gate_dst (N := 47) rfl ?_); refine ev_append (plain_int .i64) HP.out 1 rfl (.tmp 44) (.tmp 46) 47 3 (.int .i64 0) 8 rfl Try.underlying47 (by kernel_rfl) rfl (by decide) (by decide) (.slice Ak ks.length ck) ks [((n : Int) + 1)] A_b0 1 c_b0 rfl rfl rfl (Kd.R_reads' (HP.out.row 0 rfl)).2.2 (by have := HKL.out; have := HK.out; have := HL.out; omega) ?_; intro va wq2 hpn; clear HP; have HP := Aside0.mk hpn.drop1; clear hpn; obtain ⟨A3, c3, rfl⟩ := Kd.R_slice (HP.out.row 0 rfl); simp only [List.length_append, List.length_cons, List.length_nil, Nat.zero_add] at HP; (try simp only [List.length_append, List.length_cons, List.length_nil, Nat.zero_add])))
              go_roundg (gk - 1)
              case measure => have := HK.out; have := (List.getElem?_eq_some_iff.1 HY.out).1; omega
              case rel => exact ⟨j + 1, x + 1, 0, ks ++ [((n : Int) + 1)], .slice A3 (ks.length + 1) c3, rfl, rfl, rfl, ⟨by have := HX.out; omega⟩, ⟨by have := HK.out; have := (List.getElem?_eq_some_iff.1 HY.out).1; omega⟩, ⟨by simp only [List.length_append, List.length_cons, List.length_nil]; have := HKL.out; omega⟩, ⟨by have h := HG.out; rw [HCUT.out, if_pos HEND.out] at h; rw [List.append_assoc]; exact h⟩, HP⟩
            · have f0 : decide (lv = 0) = false := decide_eq_false h0
              have f0b : (lv == 0) = false := by simpa using h0
              by_cases hla : j + 1 = l.length
              · have fl : decide (x = (l.length : Int) - 1) = true := decide_eq_true (by omega)
                have flb : (x == (l.length : Int) - 1) = true := by simpa using (show  x = (l.length : Int) - 1 by omega)
                have HEND := Aside0.mk (show endB lv y (decide (j + 1 = l.length)) n = true from by rw [HEB.out, decide_eq_true hla, Bool.true_or])
                clear hla hx hkl c1 h16
                go_wp2_with (first | ((with_reducible refine gate_dst (N := 46) rfl ?_); refine ev_lit (d := Kd.int .i64) HP.out 3 rfl (xs := ([((n : Int) + 1)] : List Int)) (inner := [.int .i64 ((n : Int) + 1)]) (N := 46) rfl ?hr46 (reps_ints .i64 _ _ [((n : Int) + 1)]) (by first | decide | simp) ?_; (case hr46 => first | (go_simp; done) | (go_simp; rfl)); intro v_b0 wq hpn; clear HP; have HP := Aside0.mk hpn; clear hpn; obtain ⟨A_b0, c_b0, rfl⟩ := Kd.R_slice (HP.out.row 0 rfl)) | ((with_reducible refine gate_dst (N := 47) rfl ?_); refine ev_append (plain_int .i64) HP.out 1 rfl (.tmp 44) (.tmp 46) 47 3 (.int .i64 0) 8 rfl Try.underlying47 (by kernel_rfl) rfl (by decide) (by decide) (.slice Ak ks.length ck) ks [((n : Int) + 1)] A_b0 1 c_b0 rfl rfl rfl (Kd.R_reads' (HP.out.row 0 rfl)).2.2 (by have := HKL.out; have := HK.out; have := HL.out; omega) ?_; intro va wq2 hpn; clear HP; have HP := Aside0.mk hpn.drop1; clear hpn; obtain ⟨A3, c3, rfl⟩ := Kd.R_slice (HP.out.row 0 rfl); simp only [List.length_append, List.length_cons, List.length_nil, Nat.zero_add] at HP; (try simp only [List.length_append, List.length_cons, List.length_nil, Nat.zero_add])))
                go_roundg (gk - 1)
                case measure => have := HK.out; have := (List.getElem?_eq_some_iff.1 HY.out).1; omega
                case rel => exact ⟨j + 1, x + 1, 0, ks ++ [((n : Int) + 1)], .slice A3 (ks.length + 1) c3, rfl, rfl, rfl, ⟨by have := HX.out; omega⟩, ⟨by have := HK.out; have := (List.getElem?_eq_some_iff.1 HY.out).1; omega⟩, ⟨by simp only [List.length_append, List.length_cons, List.length_nil]; have := HKL.out; omega⟩, ⟨by have h := HG.out; rw [HCUT.out, if_pos HEND.out] at h; rw [List.append_assoc]; exact h⟩, HP⟩
              · have fl : decide (x = (l.length : Int) - 1) = false := decide_eq_false (by omega)
                have flb : (x == (l.length : Int) - 1) = false := by simpa using (show ¬ x = (l.length : Int) - 1 by omega)
                have HEND := Aside0.mk (show endB lv y (decide (j + 1 = l.length)) n = false from by rw [HEB.out, decide_eq_false hla, he, decide_eq_false h0, decide_eq_false hn1]; rfl)
                have HNE := HKL
                clear hla hx hkl c1 h16
                go_wp2_with fail
                go_roundg (gk - 1)
                case measure => have := HK.out; have := (List.getElem?_eq_some_iff.1 HY.out).1; omega
                case rel => exact ⟨j + 1, x + 1, n + 1, ks, .slice Ak ks.length ck, by rfl, by push_cast; rfl, rfl, ⟨by have := HX.out; omega⟩, ⟨by have := HK.out; have := (List.getElem?_eq_some_iff.1 HY.out).1; omega⟩, ⟨by have := HKL.out; have := HNE.out; omega⟩, ⟨by have h := HG.out; rw [HCUT.out, if_neg (by rw [HEND.out]; decide)] at h; exact h⟩, HP⟩
        | false =>
          by_cases hla : j + 1 = l.length
          · have fl : decide (x = (l.length : Int) - 1) = true := decide_eq_true (by omega)
            have flb : (x == (l.length : Int) - 1) = true := by simpa using (show  x = (l.length : Int) - 1 by omega)
            have HEND := Aside0.mk (show endB lv y (decide (j + 1 = l.length)) n = true from by rw [HEB.out, decide_eq_true hla, Bool.true_or])
            clear hla hx hkl c1 h16
            go_wp2_with (first | ((with_reducible refine gate_dst (N := 46) rfl ?_); refine ev_lit (d := Kd.int .i64) HP.out 3 rfl (xs := ([((n : Int) + 1)] : List Int)) (inner := [.int .i64 ((n : Int) + 1)]) (N := 46) rfl ?hr46 (reps_ints .i64 _ _ [((n : Int) + 1)]) (by first | decide | simp) ?_; (case hr46 => first | (go_simp; done) | (go_simp; rfl)); intro v_b0 wq hpn; clear HP; have HP := Aside0.mk hpn; clear hpn; obtain ⟨A_b0, c_b0, rfl⟩ := Kd.R_slice (HP.out.row 0 rfl)) | ((with_reducible refine gate_dst (N := 47) rfl ?_); refine ev_append (plain_int .i64) HP.out 1 rfl (.tmp 44) (.tmp 46) 47 3 (.int .i64 0) 8 rfl Try.underlying47 (by kernel_rfl) rfl (by decide) (by decide) (.slice Ak ks.length ck) ks [((n : Int) + 1)] A_b0 1 c_b0 rfl rfl rfl (Kd.R_reads' (HP.out.row 0 rfl)).2.2 (by have := HKL.out; have := HK.out; have := HL.out; omega) ?_; intro va wq2 hpn; clear HP; have HP := Aside0.mk hpn.drop1; clear hpn; obtain ⟨A3, c3, rfl⟩ := Kd.R_slice (HP.out.row 0 rfl); simp only [List.length_append, List.length_cons, List.length_nil, Nat.zero_add] at HP; (try simp only [List.length_append, List.length_cons, List.length_nil, Nat.zero_add])))
            go_roundg (gk - 1)
            case measure => have := HK.out; have := (List.getElem?_eq_some_iff.1 HY.out).1; omega
            case rel => exact ⟨j + 1, x + 1, 0, ks ++ [((n : Int) + 1)], .slice A3 (ks.length + 1) c3, rfl, rfl, rfl, ⟨by have := HX.out; omega⟩, ⟨by have := HK.out; have := (List.getElem?_eq_some_iff.1 HY.out).1; omega⟩, ⟨by simp only [List.length_append, List.length_cons, List.length_nil]; have := HKL.out; omega⟩, ⟨by have h := HG.out; rw [HCUT.out, if_pos HEND.out] at h; rw [List.append_assoc]; exact h⟩, HP⟩
          · have fl : decide (x = (l.length : Int) - 1) = false := decide_eq_false (by omega)
            have flb : (x == (l.length : Int) - 1) = false := by simpa using (show ¬ x = (l.length : Int) - 1 by omega)
            have HEND := Aside0.mk (show endB lv y (decide (j + 1 = l.length)) n = false from by rw [HEB.out, decide_eq_false hla, he, Bool.and_false]; rfl)
            have HNE := HKL
            clear hla hx hkl c1 h16
            go_wp2_with fail
            go_roundg (gk - 1)
            case measure => have := HK.out; have := (List.getElem?_eq_some_iff.1 HY.out).1; omega
            case rel => exact ⟨j + 1, x + 1, n + 1, ks, .slice Ak ks.length ck, by rfl, by push_cast; rfl, rfl, ⟨by have := HX.out; omega⟩, ⟨by have := HK.out; have := (List.getElem?_eq_some_iff.1 HY.out).1; omega⟩, ⟨by have := HKL.out; have := HNE.out; omega⟩, ⟨by have h := HG.out; rw [HCUT.out, if_neg (by rw [HEND.out]; decide)] at h; exact h⟩, HP⟩
    · have d1 : decide (x < (l.length : Int)) = false := decide_eq_false (by omega)
      have HE := Aside0.mk (show ks = cutsS l lv from by
        have h := HG.out
        rw [List.drop_of_length_le (by omega), cutGo, List.append_nil] at h
        rw [h, HC.out])
      clear hx c1
      go_wp2_with fail
      go_ret
      exact ⟨_, rfl, by rw [← HE.out]; exact HP.out.row 0 rfl, HP.out.below⟩
  · have kf : lvOk lv = false := by simpa using ko
    rw [kf]
    have HC := Aside0.mk (show cutsS l lv = [] from by unfold cutsS; rw [if_neg ko])
    go_wp2_with fail
    go_ret
    exact ⟨_, rfl, by rw [HC.out]; exact HP.out.row 0 rfl, HP.out.below⟩
end Go.Proofs.Ytlgnfbgjdkbfoaa.Pg
namespace Go.Proofs.Ytlgnfbgjdkbfoaa.Pg
open Go.RowKit Go.Proofs.Ytlgnfbgjdkbfoaa.XH Go.Proofs.Ytlgnfbgjdkbfoaa.Wd Go.Proofs.YtlgnfbgjdkbfoaaW.PrintWords Go.Proofs.YtlgnfbgjdkbfoaaW.PrintLast Go.Proofs.YtlgnfbgjdkbfoaaW.PrintMore Go.Proofs.YtlgnfbgjdkbfoaaXe Go.Proofs.YtlgnfbgjdkbfoaaXs
set_option linter.unusedVariables false
set_option linter.unusedSimpArgs false
attribute [local go_sem ↓] Go.wp_at_zero Go.wp_at_succ
theorem eq_fault (d : Nat) (a b a' b' : Int) (w : World) : (Op.equalIn (d + 2) 30 (.agg #[.int .i64 a, .int .i64 b]) (.agg #[.int .i64 a', .int .i64 b'])).run Try.prog w = .ok ((a == a') && (b == b')) w := by
  have h28 := Try.underlying28
  have h3 := Try.underlying3
  refine eqA_of Try.underlying30 (by kernel_rfl) ?_
  refine eqf_cons (by rfl) (by go_simp; rfl) (by go_simp; rfl) (by go_simp) ?_
  exact eqf_last (by rfl) (by go_simp; rfl) (by go_simp; rfl) (by go_simp)
theorem known_a : readP [0, 0] = ((0, [], []), (0, 0)) := by kernel_rfl
theorem known_b : pageS 1 [] [] = 2 := by decide +kernel
theorem known_c : pageS 0 [⟨⟨#[98]⟩, ⟨#[]⟩⟩, ⟨⟨#[97]⟩, ⟨#[]⟩⟩] [] = 2 := by decide +kernel
theorem known_d : pageS 21 [] [] = 5 := by decide +kernel
theorem known_e : readP [0] = ((0, [], []), (4, 1)) := by kernel_rfl
theorem known_f : readP [0, 17] = ((0, [], []), (3, 1)) := by kernel_rfl
theorem known_g : readP [21, 0] = ((0, [], []), (5, 0)) := by kernel_rfl
theorem same_none : retconkit_SamePage.f 60 0 [] [] 0 [] [] = some true := by kernel_rfl
theorem nil55 (w : World) : k55.C w none 0 [] := (Kd.R_reads' (Kd.R_nil k55 55 w 0 (fun _ => True))).2.2
theorem nil66 (w : World) : k66.C w none 0 [] := (Kd.R_reads' (Kd.R_nil k66 66 w 0 (fun _ => True))).2.2
set_option maxHeartbeats 8000000 in
set_option maxRecDepth 100000 in
theorem c_fails (A : Option Addr) (c : Nat) (b : List Int) (e at_ : Int) (w : World) (h : (Kd.int .u8).C w A b.length b) (hb : b.length ≤ 140737488355328) (hB : ∀ x ∈ b, 0 ≤ x ∧ x < 256) (hr : readP b = ((0, [], []), (e, at_))) :
    Calls Try.prog 29 #[.slice A b.length c, .int .i64 e, .int .i64 at_] w fun ex w' => ex = .returned (.bool true) ∧ Below w.heap.size w w' := by
  have HR := Aside0.mk (c_read (Hp.start w) A c b hb hB fun w' h' => Kd.C_below h h'.below)
  rw [hr] at HR
  clear h hb hB hr
  have heq : ∀ d w, (Op.equalIn (d + 2) 30 (.agg #[.int .i64 e, .int .i64 at_]) (.agg #[.int .i64 e, .int .i64 at_])).run Try.prog w = .ok true w := fun d w => by rw [eq_fault]; simp
  go_enter Try.func29, Try.ntmps29
  go_wp2_with fail
  refine HR.out.mono ?_; rintro e wc ⟨vp, vl, rfl, hpn⟩
  clear HR
  have HP := Aside0.mk hpn
  clear hpn
  obtain ⟨A_p, c_p, rfl⟩ := Kd.R_slice (HP.out.row 0 rfl)
  obtain ⟨A_q, c_q, rfl⟩ := Kd.R_slice (HP.out.row 1 rfl)
  go_wp2_with (first | ((with_reducible refine gate_dst (N := 7) rfl ?_); refine ev_alloc rfl 27 rfl (.agg #[.int .i64 0, .slice none 0 0, .slice none 0 0]) (by kernel_rfl) ?_; intro g3 wd hge hg hb; have HPn := Aside0.mk (HP.out.newB hb hg hge); clear HP; have HP := HPn; clear HPn; clear hge hg hb) | ((with_reducible refine gate_dst (N := 8) rfl ?_); refine ev_alloc rfl 30 rfl (.agg #[.int .i64 0, .int .i64 0]) (by kernel_rfl) ?_; intro g4 we hge hg hb; have HPn := Aside0.mk (HP.out.newB hb hg hge); clear HP; have HP := HPn; clear HPn; clear hge hg hb) | ((with_reducible refine gate_store (t := 27) (p := 7) rfl ?_); refine ev_store rfl 27 (.tmp 7) (.tmp 12) rfl rfl _ rfl (cells := #[.int .i64 0, .slice A_p 0 c_p, .slice A_q 0 c_q]) rfl (HP.out.blk 1 rfl) (by kernel_rfl) rfl (by simp [Value.oneCell']) ?_; intro wf hg hgr; have HPn := Aside0.mk (HP.out.setB 1 rfl hgr hg); clear HP; have HP := HPn; clear HPn; clear hg hgr) | ((with_reducible refine gate_store (t := 30) (p := 8) rfl ?_); refine ev_store rfl 30 (.tmp 8) (.tmp 13) rfl rfl _ rfl (cells := #[.int .i64 e, .int .i64 at_]) rfl (HP.out.blk 0 rfl) (by kernel_rfl) rfl (by simp [Value.oneCell']) ?_; intro wg hg hgr; have HPn := Aside0.mk (HP.out.setB 0 rfl hgr hg); clear HP; have HP := HPn; clear HPn; clear hg hgr) | ((with_reducible refine gate_dst (N := 14) rfl ?_); refine ev_load rfl 30 (.tmp 8) rfl g4 rfl (HP.out.blk 0 rfl) Try.underlying30 rfl (by kernel_rfl) ?_) | ((with_reducible refine gate_dst (N := 20) rfl ?_); refine ev_load rfl 27 (.tmp 7) rfl g3 rfl (HP.out.blk 1 rfl) Try.underlying27 rfl (by kernel_rfl) ?_))
  refine (retconkit_SamePage.calls 60 0 A_p c_p [] A_q c_q [] 0 none 0 [] none 0 [] true _ (Kd.R_reads' (HP.out.row 2 rfl)).2.2 (Kd.R_reads' (HP.out.row 2 rfl)).2.1 (Kd.R_reads' (HP.out.row 3 rfl)).2.2 (Kd.R_reads' (HP.out.row 3 rfl)).2.1 (nil55 _) (Nat.le_refl _) (nil66 _) (Nat.le_refl _) same_none).mono ?_; rintro e wh ⟨rfl, hb⟩
  have HPn := Aside0.mk (HP.out.call hb)
  clear HP hb
  have HP := HPn
  clear HPn
  go_wp2_with fail
  go_ret
  exact ⟨rfl, HP.out.below⟩
set_option maxHeartbeats 8000000 in
set_option maxRecDepth 100000 in
theorem pageKnown_law (w : World) : Calls Try.prog 8 #[] w fun e w' => e = .returned (.bool true) ∧ Below w.heap.size w w' := by
  have HP := Aside0.mk (Hp.start w)
  go_enter Try.func8, Try.ntmps8
  go_wp2_with (first | ((with_reducible refine gate_dst (N := 5) rfl ?_); refine ev_lit (d := Kd.int .u8) HP.out 5 rfl (xs := ([0, 0] : List Int)) (inner := [.int .u8 0, .int .u8 0]) (N := 5) rfl ?hr5 (reps_ints .u8 _ _ ([0, 0] : List Int)) (by first | decide | simp) ?_; (case hr5 => first | (go_simp; done) | (go_simp; rfl)); intro v_l1 wq hpn; clear HP; have HP := Aside0.mk hpn; clear hpn; obtain ⟨A_l1, c_l1, rfl⟩ := Kd.R_slice (HP.out.row 0 rfl)))
  refine (c_read HP.out A_l1 c_l1 [0, 0] (by decide) (by decide) (fun w' h => (Kd.R_reads' (h.row 0 rfl)).2.2)).mono ?_
  rw [known_a]
  rintro e wc ⟨vp, vl, rfl, hpn⟩
  clear HP
  have HP := Aside0.mk hpn
  clear hpn
  obtain ⟨A_p, c_p, rfl⟩ := Kd.R_slice (HP.out.row 0 rfl)
  obtain ⟨A_q, c_q, rfl⟩ := Kd.R_slice (HP.out.row 1 rfl)
  go_wp2_with (first | ((with_reducible refine gate_dst (N := 1) rfl ?_); refine ev_alloc rfl 27 rfl (.agg #[.int .i64 0, .slice none 0 0, .slice none 0 0]) (by kernel_rfl) ?_; intro g3 wd hge hg hb; have HPn := Aside0.mk (HP.out.newB hb hg hge); clear HP; have HP := HPn; clear HPn; clear hge hg hb) | ((with_reducible refine gate_dst (N := 2) rfl ?_); refine ev_alloc rfl 30 rfl (.agg #[.int .i64 0, .int .i64 0]) (by kernel_rfl) ?_; intro g4 we hge hg hb; have HPn := Aside0.mk (HP.out.newB hb hg hge); clear HP; have HP := HPn; clear HPn; clear hge hg hb) | ((with_reducible refine gate_store (t := 27) (p := 1) rfl ?_); refine ev_store rfl 27 (.tmp 1) (.tmp 7) rfl rfl _ rfl (cells := #[.int .i64 0, .slice A_p 0 c_p, .slice A_q 0 c_q]) rfl (HP.out.blk 1 rfl) (by kernel_rfl) rfl (by simp [Value.oneCell']) ?_; intro wf hg hgr; have HPn := Aside0.mk (HP.out.setB 1 rfl hgr hg); clear HP; have HP := HPn; clear HPn; clear hg hgr) | ((with_reducible refine gate_store (t := 30) (p := 2) rfl ?_); refine ev_store rfl 30 (.tmp 2) (.tmp 8) rfl rfl _ rfl (cells := #[.int .i64 0, .int .i64 0]) rfl (HP.out.blk 0 rfl) (by kernel_rfl) rfl (by simp [Value.oneCell']) ?_; intro wg hg hgr; have HPn := Aside0.mk (HP.out.setB 0 rfl hgr hg); clear HP; have HP := HPn; clear HPn; clear hg hgr; have h4 : wg.cell? ⟨g4, 0, none⟩ = some (.int .i64 0) := blk_cell (HP.out.blk 0 rfl) 0) | ((with_reducible refine gate_dst (N := 13) rfl ?_); refine ev_load rfl 27 (.tmp 1) rfl g3 rfl (HP.out.blk 1 rfl) Try.underlying27 rfl (by kernel_rfl) ?_))
  refine (retconkit_SamePage.calls 60 0 A_p c_p [] A_q c_q [] 0 none 0 [] none 0 [] true _ (Kd.R_reads' (HP.out.row 2 rfl)).2.2 (Kd.R_reads' (HP.out.row 2 rfl)).2.1 (Kd.R_reads' (HP.out.row 3 rfl)).2.2 (Kd.R_reads' (HP.out.row 3 rfl)).2.1 (nil55 _) (Nat.le_refl _) (nil66 _) (Nat.le_refl _) same_none).mono ?_; rintro e wh ⟨rfl, hb⟩
  clear h4
  have HPn := Aside0.mk (HP.out.call hb)
  clear HP hb
  have HP := HPn
  clear HPn
  go_wp2_with fail
  refine (c_pcheck 1 none 0 [] none 0 [] _ (nil55 _) (nil66 _) (Nat.le_refl _) (Nat.le_refl _) (by decide) (by decide)).mono ?_
  rw [known_b]
  rintro e wx_ ⟨rfl, hb⟩
  have HPn := Aside0.mk (HP.out.call hb)
  clear HP hb
  have HP := HPn
  clear HPn
  go_wp2_with (first | ((with_reducible refine gate_dst (N := 25) rfl ?_); refine ev_lit (d := k55) HP.out 55 rfl (xs := [(⟨⟨#[98]⟩, ⟨#[]⟩⟩ : S55), (⟨⟨#[97]⟩, ⟨#[]⟩⟩ : S55)]) (inner := [.string ⟨#[98]⟩, .string ⟨#[]⟩, .string ⟨#[97]⟩, .string ⟨#[]⟩]) (N := 25) rfl ?hr25 (Reps.c2 (k55_mkM _ _ _ (⟨⟨#[98]⟩, ⟨#[]⟩⟩ : S55)) (Reps.c2 (k55_mkM _ _ _ (⟨⟨#[97]⟩, ⟨#[]⟩⟩ : S55)) (Reps.none _ _))) (by first | decide | simp) ?_; (case hr25 => first | (go_simp; done) | (go_simp; rfl)); intro v_l2 wq hpn; clear HP; have HP := Aside0.mk hpn; clear hpn; obtain ⟨A_l2, c_l2, rfl⟩ := Kd.R_slice (HP.out.row 0 rfl)))
  refine (c_leaf A_l2 2 c_l2 _).mono ?_; rintro e wi ⟨rfl, hb⟩
  have HPn := Aside0.mk (HP.out.call hb)
  clear HP hb
  have HP := HPn
  clear HPn
  go_wp2_with fail
  refine (c_pcheck 0 A_l2 c_l2 [(⟨⟨#[98]⟩, ⟨#[]⟩⟩ : S55), (⟨⟨#[97]⟩, ⟨#[]⟩⟩ : S55)] none 0 [] _ (Kd.R_reads' (HP.out.row 0 rfl)).2.2 (nil66 _) (Kd.R_reads' (HP.out.row 0 rfl)).2.1 (Nat.le_refl _) (by simp) (by decide)).mono ?_
  rw [known_c]
  rintro e wx_ ⟨rfl, hb⟩
  have HPn := Aside0.mk (HP.out.call hb)
  clear HP hb
  have HP := HPn
  clear HPn
  go_wp2_with fail
  refine (c_pcheck 21 none 0 [] none 0 [] _ (nil55 _) (nil66 _) (Nat.le_refl _) (Nat.le_refl _) (by decide) (by decide)).mono ?_
  rw [known_d]
  rintro e wx_ ⟨rfl, hb⟩
  have HPn := Aside0.mk (HP.out.call hb)
  clear HP hb
  have HP := HPn
  clear HPn
  go_wp2_with fail
  refine (c_awake _).mono ?_; rintro e wj ⟨rfl, hb⟩
  have HPn := Aside0.mk (HP.out.call hb)
  clear HP hb
  have HP := HPn
  clear HPn
  go_wp2_with (first | ((with_reducible refine gate_dst (N := 40) rfl ?_); refine ev_lit (d := Kd.int .u8) HP.out 5 rfl (xs := ([0] : List Int)) (inner := [.int .u8 0]) (N := 40) rfl ?hr40 (reps_ints .u8 _ _ ([0] : List Int)) (by first | decide | simp) ?_; (case hr40 => first | (go_simp; done) | (go_simp; rfl)); intro v_f1 wq hpn; clear HP; have HP := Aside0.mk hpn; clear hpn; obtain ⟨A_f1, c_f1, rfl⟩ := Kd.R_slice (HP.out.row 0 rfl)))
  refine (c_fails A_f1 c_f1 [0] 4 1 _ (Kd.R_reads' (HP.out.row 0 rfl)).2.2 (by decide) (by decide) known_e).mono ?_; rintro e wx_ ⟨rfl, hb⟩
  have HPn := Aside0.mk (HP.out.call hb)
  clear HP hb
  have HP := HPn
  clear HPn
  go_wp2_with (first | ((with_reducible refine gate_dst (N := 44) rfl ?_); refine ev_lit (d := Kd.int .u8) HP.out 5 rfl (xs := ([0, 17] : List Int)) (inner := [.int .u8 0, .int .u8 17]) (N := 44) rfl ?hr44 (reps_ints .u8 _ _ ([0, 17] : List Int)) (by first | decide | simp) ?_; (case hr44 => first | (go_simp; done) | (go_simp; rfl)); intro v_f2 wq hpn; clear HP; have HP := Aside0.mk hpn; clear hpn; obtain ⟨A_f2, c_f2, rfl⟩ := Kd.R_slice (HP.out.row 0 rfl)))
  refine (c_fails A_f2 c_f2 [0, 17] 3 1 _ (Kd.R_reads' (HP.out.row 0 rfl)).2.2 (by decide) (by decide) known_f).mono ?_; rintro e wx_ ⟨rfl, hb⟩
  have HPn := Aside0.mk (HP.out.call hb)
  clear HP hb
  have HP := HPn
  clear HPn
  go_wp2_with (first | ((with_reducible refine gate_dst (N := 48) rfl ?_); refine ev_lit (d := Kd.int .u8) HP.out 5 rfl (xs := ([21, 0] : List Int)) (inner := [.int .u8 21, .int .u8 0]) (N := 48) rfl ?hr48 (reps_ints .u8 _ _ ([21, 0] : List Int)) (by first | decide | simp) ?_; (case hr48 => first | (go_simp; done) | (go_simp; rfl)); intro v_f3 wq hpn; clear HP; have HP := Aside0.mk hpn; clear hpn; obtain ⟨A_f3, c_f3, rfl⟩ := Kd.R_slice (HP.out.row 0 rfl)))
  refine (c_fails A_f3 c_f3 [21, 0] 5 0 _ (Kd.R_reads' (HP.out.row 0 rfl)).2.2 (by decide) (by decide) known_g).mono ?_; rintro e wx_ ⟨rfl, hb⟩
  have HPn := Aside0.mk (HP.out.call hb)
  clear HP hb
  have HP := HPn
  clear HPn
  go_wp2_with fail
  refine (c_cuts none 0 [] 0 _ (Kd.R_reads' (Kd.R_nil KS 9 _ 0 (fun _ => True))).2.2 (by decide) (by intro k hk; cases hk)).mono ?_
  rintro e wk ⟨v, rfl, ho, hb⟩
  have HPn := Aside0.mk (HP.out.newR hb ho)
  clear HP ho hb
  have HP := HPn
  clear HPn
  obtain ⟨A_v, c_v, rfl⟩ := Kd.R_slice (HP.out.row 0 rfl)
  have hlen : (cutsS [] 0).length = 0 := by unfold cutsS; split <;> rfl
  rw [hlen]
  clear hlen
  go_wp2_with fail
  refine (c_ends ⟨#[97]⟩ 21 (by decide) _).mono ?_
  rw [show endsS ⟨#[97]⟩ 21 = false from rfl]
  rintro e wl ⟨rfl, hb⟩
  have HPn := Aside0.mk (HP.out.call hb)
  clear HP hb
  have HP := HPn
  clear HPn
  go_wp2_with fail
  go_ret
  exact ⟨rfl, HP.out.below⟩
end Go.Proofs.Ytlgnfbgjdkbfoaa.Pg
namespace Go.Proofs.Ytlgnfbgjdkbfoaa.Pg
open Go.RowKit Go.Proofs.Ytlgnfbgjdkbfoaa.XH Go.Proofs.Ytlgnfbgjdkbfoaa.Wd Go.Proofs.YtlgnfbgjdkbfoaaW.PrintWords Go.Proofs.YtlgnfbgjdkbfoaaW.PrintLast Go.Proofs.YtlgnfbgjdkbfoaaW.PrintMore Go.Proofs.YtlgnfbgjdkbfoaaXe Go.Proofs.YtlgnfbgjdkbfoaaXs
set_option linter.unusedVariables false
set_option linter.unusedSimpArgs false
attribute [local go_sem ↓] Go.wp_at_zero Go.wp_at_succ
theorem long_keys (l : List ByteArray) (hl : l.length ≤ 1000000000000000000) : ∃ k b, retconkit_LongKeys.f k l 100 = some b ∧ (b = false → l.length ≤ 100 ∧ ∀ s ∈ l, s.size ≤ 100) := by
  have main : ∀ (d j : Nat), j + d = l.length → ∃ k b, retconkit_LongKeys.l0 k l 100 (j : Int) = some b ∧ (b = false → l.length ≤ 100 ∧ ∀ s ∈ l.drop j, s.size ≤ 100) := by
    intro d
    induction d with
    | zero =>
      intro j hj
      refine ⟨2, decide ((l.length : Int) > 100), ?_, fun h => ⟨by simp at h; omega, fun s hs => ?_⟩⟩
      · simp only [retconkit_LongKeys.l0, retconkit_LongKeys.j1]
        rw [if_neg (show ¬ ((j : Int) < (l.length : Int)) by omega), if_neg (by decide)]
      · rw [List.drop_of_length_le (by omega)] at hs
        cases hs
    | succ d ih =>
      intro j hj
      by_cases h100 : (j : Int) ≤ 100
      · obtain ⟨x, hx⟩ : ∃ x, l[j]? = some x := ⟨_, List.getElem?_eq_getElem (by omega)⟩
        have hrd : rdOf ByteArray.empty l (j : Int) = x := by
          show l.getD (j : Int).toNat ByteArray.empty = x
          rw [Int.toNat_natCast, List.getD_eq_getElem?_getD, hx]
          rfl
        by_cases hs : (x.size : Int) > 100
        · refine ⟨2, true, ?_, fun h => by cases h⟩
          simp only [retconkit_LongKeys.l0, retconkit_LongKeys.j1]
          rw [if_pos (show (j : Int) < (l.length : Int) by omega), decide_eq_true h100, if_pos rfl, if_pos (show (0 : Int) ≤ j by omega), if_pos (show (j : Int) < (l.length : Int) by omega), hrd, if_pos hs]
        · obtain ⟨k, b, h1, h2⟩ := ih (j + 1) (by omega)
          refine ⟨k + 2, b, ?_, fun h => ⟨(h2 h).1, fun s hs' => ?_⟩⟩
          · simp only [retconkit_LongKeys.l0, retconkit_LongKeys.j1]
            rw [if_pos (show (j : Int) < (l.length : Int) by omega), decide_eq_true h100, if_pos rfl, if_pos (show (0 : Int) ≤ j by omega), if_pos (show (j : Int) < (l.length : Int) by omega), hrd, if_neg hs, wr (by omega)]
            exact h1
          · rw [List.drop_eq_getElem_cons (show j < l.length by omega)] at hs'
            rcases List.mem_cons.1 hs' with rfl | h3
            · have := (List.getElem?_eq_some_iff.1 hx).2
              rw [this]
              omega
            · exact (h2 h).2 s h3
      · refine ⟨2, decide ((l.length : Int) > 100), ?_, fun h => ?_⟩
        · simp only [retconkit_LongKeys.l0, retconkit_LongKeys.j1]
          rw [if_pos (show (j : Int) < (l.length : Int) by omega), decide_eq_false h100, if_neg (by decide)]
        · simp at h
          omega
  obtain ⟨k, b, h1, h2⟩ := main l.length 0 (by omega)
  exact ⟨k, b, h1, fun h => by simpa using h2 h⟩
theorem same_ints (l : List Int) (hl : l.length ≤ 1000000000000000000) : ∃ k, retconkit_SameInts.f k l l = some true := by
  have main : ∀ (d j : Nat), j + d = l.length → ∃ k, retconkit_SameInts.l0 k l l (j : Int) = some true := by
    intro d
    induction d with
    | zero =>
      intro j hj
      refine ⟨1, ?_⟩
      simp only [retconkit_SameInts.l0]
      rw [if_neg (show ¬ ((j : Int) < (l.length : Int)) by omega)]
    | succ d ih =>
      intro j hj
      obtain ⟨k, h1⟩ := ih (j + 1) (by omega)
      refine ⟨k + 1, ?_⟩
      simp only [retconkit_SameInts.l0]
      rw [if_pos (show (j : Int) < (l.length : Int) by omega), if_pos (show (0 : Int) ≤ j by omega), if_pos (show (j : Int) < (l.length : Int) by omega), if_pos trivial, wr (by omega)]
      exact h1
  obtain ⟨k, h1⟩ := main l.length 0 (by omega)
  exact ⟨k, by unfold retconkit_SameInts.f; rw [if_pos rfl]; exact h1⟩
theorem cutGo_len (lv : Int) : ∀ (l : List ByteArray) (n : Nat), (cutGo lv l n).length ≤ l.length
  | [], _ => by simp [cutGo]
  | k :: rest, n => by
    have h1 := cutGo_len lv rest 0
    have h2 := cutGo_len lv rest (n + 1)
    rw [cutGo]
    split
    · simp only [List.length_cons]; omega
    · simp only [List.length_cons]; omega
theorem cutsS_len (l : List ByteArray) (lv : Int) : (cutsS l lv).length ≤ l.length := by
  unfold cutsS
  split
  · exact cutGo_len lv l 0
  · simp
set_option maxHeartbeats 8000000 in
set_option maxRecDepth 100000 in
theorem pageCuts_law (A : Option Addr) (c : Nat) (l : List ByteArray) (lv : Int) (k : ByteArray) (W : World) (hr : KS.C W A l.length l) (hc : l.length ≤ c) (hl : l.length ≤ 1000000000000000000) :
    Calls Try.prog 5 #[.slice A l.length c, .int .i64 lv, .string k] W fun e W' => e = .returned (.bool true) ∧ Below W.heap.size W W' := by
  have HR := Aside0.mk hr
  have HC := Aside0.mk hc
  have HL := Aside0.mk hl
  have HP := Aside0.mk (Hp.start W)
  clear hr hc hl
  go_enter Try.func5, Try.ntmps5
  go_wp2_with fail
  obtain ⟨kk, bb, hlk, hlf⟩ := long_keys l (by have := HL.out; omega)
  have HLF := Aside0.mk hlf
  have HLK := Aside0.mk (retconkit_LongKeys.calls kk A c l 100 bb W (Kd.C_below HR.out HP.out.below) HC.out hlk)
  clear hlk hlf
  refine HLK.out.mono ?_; rintro e wf ⟨rfl, hd⟩
  obtain ⟨nd_, rfl⟩ := hd
  have HPn := Aside0.mk (HP.out.drewN nd_)
  clear HP HLK
  have HP := HPn
  clear HPn
  obtain ⟨wa, hwa⟩ : ∃ z, W.drewN nd_ = z := ⟨_, rfl⟩
  rw [hwa] at HP ⊢
  clear hwa
  cases bb with
  | true =>
    go_wp2_with fail
    go_ret
    exact ⟨rfl, HP.out.below⟩
  | false =>
    have HLE := Aside0.mk (HLF.out rfl)
    by_cases hk : k.size > 100
    · have k1 : decide ((100 : Int) < (k.size : Int)) = true := decide_eq_true (by omega)
      have k2 : decide (100 < k.size) = true := decide_eq_true hk
      clear hk
      go_wp2_with fail
      go_ret
      exact ⟨rfl, HP.out.below⟩
    · have k1 : decide ((100 : Int) < (k.size : Int)) = false := decide_eq_false (by omega)
      have k2 : decide (100 < k.size) = false := decide_eq_false hk
      have HK := Aside0.mk (show k.size ≤ 1000000 by omega)
      obtain ⟨ki, hki⟩ := same_ints (cutsS l lv) (by have h1 := cutsS_len l lv; have h2 := HLE.out.1; omega)
      have HKI := Aside0.mk hki
      clear hk hki
      go_wp2_with fail
      refine (c_cuts A c l lv _ (Kd.C_below HR.out HP.out.below) (by have := HLE.out.1; omega) (fun s hs => by have := HLE.out.2 s hs; omega)).mono ?_; rintro e wb ⟨v1, rfl, ho, hb⟩
      have HPn := Aside0.mk (HP.out.newR hb ho)
      clear HP hb ho
      have HP := HPn
      clear HPn
      obtain ⟨A1, c1, rfl⟩ := Kd.R_slice (HP.out.row 0 rfl)
      go_wp2_with fail
      refine (c_rcuts A c l lv _ (Kd.C_below HR.out HP.out.below) (by have := HLE.out.1; omega) (fun s hs => by have := HLE.out.2 s hs; omega)).mono ?_; rintro e wc ⟨v2, rfl, ho, hb⟩
      have HPn := Aside0.mk (HP.out.newR hb ho)
      clear HP hb ho
      have HP := HPn
      clear HPn
      obtain ⟨A2, c2, rfl⟩ := Kd.R_slice (HP.out.row 0 rfl)
      go_wp2_with fail
      refine (retconkit_SameInts.calls ki A1 c1 (cutsS l lv) A2 c2 (cutsS l lv) true _ (Kd.R_reads' (HP.out.row 1 rfl)).2.2 (Kd.R_reads' (HP.out.row 1 rfl)).2.1 (Kd.R_reads' (HP.out.row 0 rfl)).2.2 (Kd.R_reads' (HP.out.row 0 rfl)).2.1 HKI.out).mono ?_; rintro e w_ ⟨rfl, nd2_, rfl⟩
      have HPn := Aside0.mk (HP.out.drewN nd2_)
      clear HP
      have HP := HPn
      clear HPn
      go_wp2_with fail
      refine (c_ends k lv HK.out _).mono ?_; rintro e wd ⟨rfl, hb⟩
      have HPn := Aside0.mk (HP.out.call hb)
      clear HP hb
      have HP := HPn
      clear HPn
      go_wp2_with fail
      refine (c_rends k lv HK.out _).mono ?_; rintro e we ⟨rfl, hb⟩
      have HPn := Aside0.mk (HP.out.call hb)
      clear HP hb
      have HP := HPn
      clear HPn
      cases hq : endsS k lv with
      | true =>
        go_wp2_with fail
        refine (c_awake _).mono ?_; rintro e wg ⟨rfl, hb⟩
        have HPn := Aside0.mk (HP.out.call hb)
        clear HP hb
        have HP := HPn
        clear HPn
        go_wp2_with fail
        go_ret
        exact ⟨rfl, HP.out.below⟩
      | false =>
        go_wp2_with fail
        refine (c_awake _).mono ?_; rintro e wg ⟨rfl, hb⟩
        have HPn := Aside0.mk (HP.out.call hb)
        clear HP hb
        have HP := HPn
        clear HPn
        go_wp2_with fail
        go_ret
        exact ⟨rfl, HP.out.below⟩
end Go.Proofs.Ytlgnfbgjdkbfoaa.Pg
namespace Go.Proofs.Ytlgnfbgjdkbfoaa.Pg
open Go.RowKit Go.Proofs.Ytlgnfbgjdkbfoaa.XH Go.Proofs.Ytlgnfbgjdkbfoaa.Wd Go.Proofs.YtlgnfbgjdkbfoaaW.PrintWords Go.Proofs.YtlgnfbgjdkbfoaaW.PrintLast Go.Proofs.YtlgnfbgjdkbfoaaW.PrintMore Go.Proofs.YtlgnfbgjdkbfoaaXe Go.Proofs.YtlgnfbgjdkbfoaaXs
set_option linter.unusedVariables false
set_option linter.unusedSimpArgs false
attribute [local go_sem ↓] Go.wp_at_zero Go.wp_at_succ
theorem endB_last {lv : Int} {k : ByteArray} {b : Bool} {n : Nat} (h : endB lv k false n = true) : endB lv k b n = true := by
  unfold endB at h ⊢
  cases b with
  | false => exact h
  | true => rw [Bool.or_true, Bool.true_or]
theorem endB_true (lv : Int) (k : ByteArray) (n : Nat) : endB lv k true n = true := by
  unfold endB
  rw [Bool.or_true, Bool.true_or]
/-- the first page of keys -/
theorem cut_first (lv : Int) : ∀ (l : List ByteArray) (n : Nat), l ≠ [] → ∃ d, 1 ≤ d ∧ d ≤ l.length ∧ (∀ e, d ≤ e → e ≤ l.length → cutGo lv (l.take e) n = ((n + d : Nat) : Int) :: cutGo lv ((l.drop d).take (e - d)) 0) ∧ (n < 16 → n + d ≤ 16) ∧ (∀ i x, i + 1 < d → l[i]? = some x → endB lv x false (n + i) = false) ∧ (∀ x, l[d - 1]? = some x → endB lv x (decide (d = l.length)) (n + d - 1) = true)
  | [], _, h => absurd rfl h
  | k :: rest, n, _ => by
    by_cases hb : endB lv k rest.isEmpty n = true
    · refine ⟨1, Nat.le_refl _, by simp, fun e he hl => ?_, fun h => by omega, fun i x hi => by omega, fun x hx => ?_⟩
      · obtain ⟨e', rfl⟩ : ∃ e', e = e' + 1 := ⟨e - 1, by omega⟩
        rw [List.take_succ_cons, cutGo, if_pos]
        · simp
        · cases hr : rest with
          | nil => rw [hr] at hb; simpa using hb
          | cons a m =>
            rw [hr] at hb
            exact endB_last hb
      · simp at hx
        subst hx
        cases hr : rest with
        | nil => simpa [hr] using hb
        | cons a m => simpa [hr] using hb
    · have hne : rest ≠ [] := by
        rintro rfl
        exact hb (endB_true lv k n)
      obtain ⟨d, h1, h2, h3, h4, h5, h6⟩ := cut_first lv rest (n + 1) hne
      have hbf : endB lv k false n = false := by
        cases hr : rest with
        | nil => exact absurd hr hne
        | cons a m =>
          rw [hr] at hb
          simpa using hb
      have hn16 : n + 1 ≠ 16 := by
        intro h
        unfold endB at hbf
        rw [decide_eq_true h] at hbf
        simp at hbf
      refine ⟨d + 1, by omega, by simp only [List.length_cons]; omega, fun e he hl => ?_, fun h => ?_, fun i x hi hx => ?_, fun x hx => ?_⟩
      · obtain ⟨e', rfl⟩ : ∃ e', e = e' + 1 := ⟨e - 1, by omega⟩
        simp only [List.length_cons] at hl
        have hem : (rest.take e').isEmpty = false := by
          cases hr : rest with
          | nil => exact absurd hr hne
          | cons a m =>
            obtain ⟨e'', rfl⟩ : ∃ e'', e' = e'' + 1 := ⟨e' - 1, by omega⟩
            rfl
        rw [List.take_succ_cons, cutGo, if_neg (by rw [hem, hbf]; decide), h3 e' (by omega) (by omega), List.drop_succ_cons, show e' + 1 - (d + 1) = e' - d by omega, show n + 1 + d = n + (d + 1) by omega]
      · have := h4 (by omega); omega
      · cases i with
        | zero =>
          simp at hx
          subst hx
          exact hbf
        | succ i =>
          have := h5 i x (by omega) (by simpa using hx)
          rwa [show n + 1 + i = n + (i + 1) by omega] at this
      · have hx' : rest[d - 1]? = some x := by
          rw [show d + 1 - 1 = (d - 1) + 1 by omega] at hx
          simpa using hx
        have := h6 x hx'
        rw [show n + 1 + d - 1 = n + (d + 1) - 1 by omega] at this
        simpa using this
theorem cut_whole {lv : Int} {l : List ByteArray} {d : Nat} (h : ∀ e, d ≤ e → e ≤ l.length → cutGo lv (l.take e) 0 = ((0 + d : Nat) : Int) :: cutGo lv ((l.drop d).take (e - d)) 0) (hd : d ≤ l.length) : cutGo lv l 0 = (d : Int) :: cutGo lv (l.drop d) 0 := by
  have := h l.length hd (Nat.le_refl _)
  rw [List.take_of_length_le (Nat.le_refl _), List.take_of_length_le (by simp)] at this
  simpa using this
/-- m pages: they come to s keys; what stands behind, and ahead -/
theorem cut_at (lv : Int) : ∀ (m : Nat) (l : List ByteArray), m ≤ (cutGo lv l 0).length → ∃ s : Nat, ((cutGo lv l 0).take m).sum = (s : Int) ∧ s ≤ l.length ∧ cutGo lv (l.drop s) 0 = (cutGo lv l 0).drop m ∧ cutGo lv (l.take s) 0 = (cutGo lv l 0).take m
  | 0, l, _ => ⟨0, by simp, by omega, by simp, by simp [cutGo]⟩
  | m + 1, l, h => by
    have hne : l ≠ [] := by
      rintro rfl
      simp [cutGo] at h
    obtain ⟨d, h1, h2, h3, _, _, _⟩ := cut_first lv l 0 hne
    have hw := cut_whole h3 h2
    rw [hw] at h ⊢
    obtain ⟨s, k1, k2, k3, k4⟩ := cut_at lv m (l.drop d) (by simpa using h)
    rw [List.length_drop] at k2
    refine ⟨d + s, by simp [k1], by omega, by rw [← List.drop_drop, k3, List.drop_succ_cons], ?_⟩
    rw [h3 (d + s) (by omega) (by omega), show d + s - d = s by omega, k4, List.take_succ_cons]
    simp
theorem cut_nil {lv : Int} {l : List ByteArray} (h : cutGo lv l 0 = []) : l = [] := by
  cases l with
  | nil => rfl
  | cons k rest =>
    obtain ⟨d, h1, h2, h3, _, _, _⟩ := cut_first lv (k :: rest) 0 (by simp)
    rw [cut_whole h3 h2] at h
    cases h
/-- the page i: where it begins, how many keys it has, and why it ends -/
theorem cut_page (lv : Int) (l : List ByteArray) (i : Nat) (hi : i < (cutGo lv l 0).length) : ∃ s d : Nat, ((cutGo lv l 0).take i).sum = (s : Int) ∧ (cutGo lv l 0)[i]? = some (d : Int) ∧ 1 ≤ d ∧ d ≤ 16 ∧ s + d ≤ l.length ∧ ((cutGo lv l 0).take (i + 1)).sum = ((s + d : Nat) : Int) ∧ (s + d = l.length ↔ i + 1 = (cutGo lv l 0).length) ∧ (∀ j x, j + 1 < d → l[s + j]? = some x → endB lv x false j = false) ∧ (∀ x, l[s + d - 1]? = some x → endB lv x (decide (s + d = l.length)) (d - 1) = true) := by
  obtain ⟨s, h1, h2, h3, _⟩ := cut_at lv i l (by omega)
  have hne : l.drop s ≠ [] := by
    intro h
    rw [h, cutGo] at h3
    have := congrArg List.length h3
    simp at this
    omega
  obtain ⟨d, k1, k2, k3, k4, k5, k6⟩ := cut_first lv (l.drop s) 0 hne
  have hw := cut_whole k3 k2
  rw [h3] at hw
  have hgi : (cutGo lv l 0)[i]? = some (d : Int) := by
    have := congrArg List.head? hw
    rw [List.head?_drop] at this
    simpa using this
  have hdrop : (cutGo lv l 0).drop (i + 1) = cutGo lv ((l.drop s).drop d) 0 := by
    have := congrArg List.tail hw
    rw [List.tail_drop] at this
    simpa using this
  have hsum : ((cutGo lv l 0).take (i + 1)).sum = ((s + d : Nat) : Int) := by
    rw [List.take_add_one, hgi]
    simp [List.sum_append, h1]
  rw [List.length_drop] at k2
  refine ⟨s, d, h1, hgi, k1, by have := k4 (by omega); omega, by omega, hsum, ⟨fun h => ?_, fun h => ?_⟩, fun j x hj hx => ?_, fun x hx => ?_⟩
  · have hnil : (l.drop s).drop d = [] := by rw [List.drop_drop]; exact List.drop_of_length_le (by omega)
    rw [hnil, cutGo] at hdrop
    have := congrArg List.length hdrop
    simp at this
    omega
  · have hnil : (cutGo lv l 0).drop (i + 1) = [] := List.drop_of_length_le (by omega)
    rw [hnil] at hdrop
    have := cut_nil hdrop.symm
    rw [List.drop_drop] at this
    have := congrArg List.length this
    simp at this
    omega
  · have := k5 j x hj (by rw [List.getElem?_drop]; exact hx)
    rwa [Nat.zero_add] at this
  · have := k6 x (by rw [List.getElem?_drop, show s + (d - 1) = s + d - 1 by omega]; exact hx)
    rw [List.length_drop, Nat.zero_add] at this
    rwa [show decide (s + d = l.length) = decide (d = l.length - s) from decide_eq_decide.2 (by omega)]
end Go.Proofs.Ytlgnfbgjdkbfoaa.Pg
namespace Go.Proofs.Ytlgnfbgjdkbfoaa.Pg
open Go.RowKit Go.Proofs.Ytlgnfbgjdkbfoaa.XH Go.Proofs.Ytlgnfbgjdkbfoaa.Wd Go.Proofs.YtlgnfbgjdkbfoaaW.PrintWords Go.Proofs.YtlgnfbgjdkbfoaaW.PrintLast Go.Proofs.YtlgnfbgjdkbfoaaW.PrintMore Go.Proofs.YtlgnfbgjdkbfoaaXe Go.Proofs.YtlgnfbgjdkbfoaaXs
set_option linter.unusedVariables false
set_option linter.unusedSimpArgs false
attribute [local go_sem ↓] Go.wp_at_zero Go.wp_at_succ
theorem pick_f (a n : Int) (ha : -9223372036854775808 ≤ a ∧ a ≤ 9223372036854775807) (h1 : 1 ≤ n) (h2 : n ≤ 1000000) : ∃ p, retconkit_Pick.f a n = some p ∧ 0 ≤ p ∧ p < n := by
  have h := Int.tmod_lt_of_pos a (b := n) (by omega)
  have h' : -n < Int.tmod a n := by
    have := Int.lt_tmod_of_pos a (b := n) (by omega)
    omega
  unfold retconkit_Pick.f
  rw [if_neg (by omega), if_neg (by omega)]
  by_cases hc : Int.tmod a n < 0
  · rw [if_pos hc, wr (by omega)]
    exact ⟨_, rfl, by omega, by omega⟩
  · rw [if_neg hc]
    exact ⟨_, rfl, by omega, by omega⟩
section
variable {α : Type} {d : Kd α} {T e : TypeId}
theorem fromG {i : TypeInfo} (hT : Try.prog.underlying T = some (.slice e)) (hi : Try.prog.info? e = some i) (hs : i.size = d.sz) (A : Option Addr) (c : Nat) (b : List α) (lo : Nat) (h : lo ≤ b.length) (hc : b.length ≤ c) (hl : Int) (el : hl = (lo : Int)) : ∃ A', (∀ w : World, (Instr.slice T (.slice A b.length c) (some (.int .i64 hl)) none none).run Try.prog w = .ok (.slice A' (b.drop lo).length (c - lo)) w) ∧ (b.drop lo).length ≤ c - lo ∧ (∀ w : World, d.C w A b.length b → d.C w A' (b.drop lo).length (b.drop lo)) := by
  subst el
  have hm : (b.drop lo).length = b.length - lo := List.length_drop
  refine ⟨if c = lo then A else A.map (·.add (lo * d.sz)), fun w => ?_, by rw [hm]; omega, fun w hC => Kd.C_drop hC h hc⟩
  rw [cut_from T e .i64 hT hi d.sz hs A b.length c lo (by omega) (by omega) w, hm]
  simp only [Int.toNat_natCast]
theorem toG {i : TypeInfo} (hT : Try.prog.underlying T = some (.slice e)) (hi : Try.prog.info? e = some i) (A : Option Addr) (c : Nat) (b : List α) (lo : Nat) (h : lo ≤ b.length) (hc : b.length ≤ c) (hl : Int) (el : hl = (lo : Int)) : ∀ w : World, (Instr.slice T (.slice A b.length c) none (some (.int .i64 hl)) none).run Try.prog w = .ok (.slice A (b.take lo).length c) w := fun w => by
  subst el
  have hm : (b.take lo).length = lo := by rw [List.length_take]; omega
  rw [cut_to T e .i64 hT hi A b.length c lo (by omega) (by omega) hc w, hm]
  simp only [Int.toNat_natCast]
end
set_option maxHeartbeats 8000000 in
set_option maxRecDepth 100000 in
theorem pageApart_law (A : Option Addr) (c : Nat) (l : List ByteArray) (lv which : Int) (hwh : -9223372036854775808 ≤ which ∧ which ≤ 9223372036854775807) (W : World) (hr : KS.C W A l.length l) (hc : l.length ≤ c) (hl : l.length ≤ 1000000000000000000) :
    Calls Try.prog 7 #[.slice A l.length c, .int .i64 lv, .int .i64 which] W fun e W' => e = .returned (.bool true) ∧ Below W.heap.size W W' := by
  have HR := Aside0.mk hr
  have HC := Aside0.mk hc
  have HL := Aside0.mk hl
  have HWH := Aside0.mk hwh
  have HP := Aside0.mk (Hp.start W)
  clear hr hc hl hwh
  go_enter Try.func7, Try.ntmps7
  go_wp2_with fail
  refine (c_awake _).mono ?_; rintro e w0a ⟨rfl, hb⟩
  have HPn := Aside0.mk (HP.out.call hb)
  clear HP hb
  have HP := HPn
  clear HPn
  go_wp2_with fail
  obtain ⟨kk, bb, hlk, hlf⟩ := long_keys l (by have := HL.out; omega)
  have HLF := Aside0.mk hlf
  have HLK := Aside0.mk (retconkit_LongKeys.calls kk A c l 100 bb w0a (Kd.C_below HR.out HP.out.below) HC.out hlk)
  clear hlk hlf
  refine HLK.out.mono ?_; rintro e wf ⟨rfl, hd⟩
  obtain ⟨nd_, rfl⟩ := hd
  have HPn := Aside0.mk (HP.out.drewN nd_)
  clear HP HLK
  have HP := HPn
  clear HPn
  obtain ⟨wa, hwa⟩ : ∃ z, w0a.drewN nd_ = z := ⟨_, rfl⟩
  rw [hwa] at HP ⊢
  clear hwa
  cases bb with
  | true =>
    go_wp2_with fail
    go_ret
    exact ⟨rfl, HP.out.below⟩
  | false =>
    have HLE := Aside0.mk (HLF.out rfl)
    go_wp2_with fail
    refine (c_cuts A c l lv _ (Kd.C_below HR.out HP.out.below) (by have := HLE.out.1; omega) (fun s hs => by have := HLE.out.2 s hs; omega)).mono ?_; rintro e wb ⟨v1, rfl, ho, hb⟩
    have HPn := Aside0.mk (HP.out.newR hb ho)
    clear HP hb ho
    have HP := HPn
    clear HPn
    obtain ⟨A1, c1, rfl⟩ := Kd.R_slice (HP.out.row 0 rfl)
    obtain ⟨C, hCe⟩ : ∃ C, cutsS l lv = C := ⟨_, rfl⟩
    rw [hCe] at HP ⊢
    have HCE := Aside0.mk hCe
    clear hCe
    by_cases hC0 : C.length = 0
    · have e1 : decide ((C.length : Int) = 0) = true := decide_eq_true (by omega)
      have e2 : ((C.length : Int) == 0) = true := by simpa using hC0
      have HN := Aside0.mk (show l.length = 0 ∨ lv < 0 ∨ 20 < lv from by
        by_cases ko : lvOk lv = true
        · have h := HCE.out
          rw [List.length_eq_zero_iff.1 hC0, cutsS, if_pos ko] at h
          exact .inl (by rw [cut_nil h]; rfl)
        · simp only [lvOk, Bool.and_eq_true, decide_eq_true_eq] at ko
          omega)
      clear hC0
      by_cases hl0 : l.length = 0
      · have f1 : decide ((l.length : Int) = 0) = true := decide_eq_true (by omega)
        have f2 : ((l.length : Int) == 0) = true := by simpa using hl0
        clear hl0
        go_wp2_with fail
        go_ret
        exact ⟨rfl, HP.out.below⟩
      · have f1 : decide ((l.length : Int) = 0) = false := decide_eq_false (by omega)
        have f2 : ((l.length : Int) == 0) = false := by simpa using (show ¬ ((l.length : Int) = 0) by omega)
        have f2n : (l.length == 0) = false := by simpa using hl0
        have f1n : decide (l.length = 0) = false := decide_eq_false hl0
        by_cases hlv : lv < 0
        · have f3 : decide (lv < 0) = true := decide_eq_true hlv
          clear hlv
          go_wp2_with fail
          go_ret
          exact ⟨rfl, HP.out.below⟩
        · have f3 : decide (lv < 0) = false := decide_eq_false hlv
          have f4 : decide (20 < lv) = true := decide_eq_true (by have := HN.out; omega)
          clear hlv
          go_wp2_with fail
          go_ret
          exact ⟨rfl, HP.out.below⟩
    have e1 : decide ((C.length : Int) = 0) = false := decide_eq_false (by omega)
    have e2 : ((C.length : Int) == 0) = false := by simpa using (show ¬ ((C.length : Int) = 0) by omega)
    have e1n : decide (C.length = 0) = false := decide_eq_false hC0
    have e2n : (C.length == 0) = false := by simpa using hC0
    have HLV := Aside0.mk (show lvOk lv = true from by
      by_cases ko : lvOk lv = true
      · exact ko
      · exfalso
        have h := HCE.out
        rw [cutsS, if_neg ko] at h
        rw [← h] at hC0
        exact hC0 rfl)
    have HCG := Aside0.mk (show cutGo lv l 0 = C from by have h := HCE.out; rwa [cutsS, if_pos HLV.out] at h)
    have HCL := Aside0.mk (show C.length ≤ 100 from by have h1 := cutGo_len lv l 0; rw [HCG.out] at h1; have := HLE.out.1; omega)
    obtain ⟨r, hpf, hr0, hr1⟩ := pick_f which (C.length : Int) HWH.out (by omega) (by have := HCL.out; omega)
    obtain ⟨rn, hrn⟩ : ∃ rn : Nat, r = (rn : Int) := ⟨r.toNat, by omega⟩
    have HPF := Aside0.mk hpf
    have HRN := Aside0.mk hrn
    have HRL := Aside0.mk (show rn + 1 ≤ C.length by omega)
    obtain ⟨s, hs1, hs2, hs3, hs4⟩ := cut_at lv (rn + 1) l (by rw [HCG.out]; omega)
    rw [HCG.out] at hs1 hs3 hs4
    have HS1 := Aside0.mk hs1
    have HSL := Aside0.mk hs2
    have HC1 := Aside0.mk (show cutsS (l.drop s) lv = C.drop (rn + 1) from by rw [cutsS, if_pos HLV.out]; exact hs3)
    have HC2 := Aside0.mk (show cutsS (l.take s) lv = C.take (rn + 1) from by rw [cutsS, if_pos HLV.out]; exact hs4)
    obtain ⟨Ab, Ao, hA⟩ := C_addrK (by decide) (Kd.R_reads' (HP.out.row 0 rfl)).2.2 (by omega)
    subst hA
    clear hC0 hpf hr0 hr1 hrn hs1 hs2 hs3 hs4
    go_wp2_with fail
    refine (retconkit_Pick.calls which (C.length : Int) r _ HPF.out).mono ?_; rintro e wp ⟨rfl, hd⟩
    obtain ⟨nd3_, rfl⟩ := hd
    have HPn := Aside0.mk (HP.out.drewN nd3_)
    clear HP HPF
    have HP := HPn
    clear HPn
    go_wp2_with fail
    go_loopg [10, 11] (rn + 1) (fun kq v10 v11 w' => ∃ (j : Nat) (x a : Int), v10 = .int .i64 a ∧ v11 = .int .i64 x ∧ Aside0 (x = (j : Int)) ∧ Aside0 (kq + j = rn + 1) ∧ Aside0 (a = (C.take j).sum) ∧ Aside0 (Hp W w' [.row (Kd.int .i64) 3 W.heap.size (.slice (some ⟨Ab, Ao, none⟩) C.length c1) C]))
    case atStart => exact ⟨0, 0, 0, rfl, rfl, ⟨rfl⟩, ⟨rfl⟩, ⟨rfl⟩, HP⟩
    clear HP
    obtain ⟨j, x, a, rfl, rfl, HX, HK, HA, HP⟩ := hrel
    have hx := HX.out
    by_cases cj : j < rn + 1
    · have d1 : decide (x ≤ r) = true := decide_eq_true (by have := HRN.out; omega)
      have ex : IntKind.i64.wrap (x + 1) = x + 1 := IntWalk.i64_in _ (by have := HRL.out; have := HCL.out; omega)
      have p0 : 0 ≤ x := by omega
      have q0 : x < (C.length : Int) := by have := HRL.out; omega
      obtain ⟨y, hy⟩ : ∃ p, C[j]? = some p := ⟨_, List.getElem?_eq_getElem (by have := HRL.out; omega)⟩
      obtain ⟨cs, hcs, hra⟩ := range_K (Kd.R_reads' (HP.out.row 0 rfl)).2.2 hy
      have hcs2 : cs = [.int .i64 y] := hcs
      subst hcs2
      have hyc : wr.cell? ⟨Ab, Ao + x.toNat, none⟩ = some (.int .i64 y) := by
        have h0 := hra 0 _ rfl
        rw [show x.toNat = j by omega]
        simpa [show (Kd.int .i64).sz = 1 from rfl] using h0
      have HSM := Aside0.mk (show a + y = (C.take (j + 1)).sum from by rw [List.take_add_one, hy, HA.out]; simp [List.sum_append])
      have ea : IntKind.i64.wrap (a + y) = a + y := IntWalk.i64_in _ (by
        obtain ⟨s', t1, t2, _, _⟩ := cut_at lv (j + 1) l (by rw [HCG.out]; have := HRL.out; omega)
        rw [HCG.out, ← HSM.out] at t1
        have := HLE.out.1
        omega)
      have hmj := hx
      clear hx hcs hra hy
      clear hmj
      go_wp2_with fail
      go_roundg (gk - 1)
      case measure => have := HK.out; omega
      case rel => exact ⟨j + 1, x + 1, a + y, rfl, rfl, ⟨by have := HX.out; omega⟩, ⟨by have := HK.out; omega⟩, HSM, HP⟩
    have d1 : decide (x ≤ r) = false := decide_eq_false (by have := HRN.out; have := HK.out; omega)
    have HAS := Aside0.mk (show a = (s : Int) from by rw [HA.out, show j = rn + 1 by have := HK.out; omega, HS1.out])
    have g1 : decide (a < 0) = false := decide_eq_false (by have := HAS.out; omega)
    have g2 : decide ((l.length : Int) < a) = false := decide_eq_false (by have := HAS.out; have := HSL.out; omega)
    have er : IntKind.i64.wrap (r + 1) = r + 1 := IntWalk.i64_in _ (by have := HRN.out; have := HRL.out; have := HCL.out; omega)
    clear hx cj
    go_upto_region 14 with fail
    have HSZ := Aside0.mk (show ∀ k ∈ l, k.size ≤ 1000000 from fun k hk => by have := HLE.out.2 k hk; omega)
    have HDL := Aside0.mk (show (l.drop s).length ≤ 1000 from by rw [List.length_drop]; have := HLE.out.1; omega)
    have HTL := Aside0.mk (show (l.take s).length ≤ 1000 from by rw [List.length_take]; have := HLE.out.1; omega)
    obtain ⟨i9, hi9, _⟩ : ∃ i, Try.prog.info? 9 = some i ∧ i.size = 1 := by
      have h : (Try.prog.info? 9).map (·.size) = some 1 := by kernel_rfl
      obtain ⟨i, h1, h2⟩ := Option.map_eq_some_iff.1 h
      exact ⟨i, h1, h2⟩
    obtain ⟨i3, hi3, hz3⟩ : ∃ i, Try.prog.info? 3 = some i ∧ i.size = 1 := by
      have h : (Try.prog.info? 3).map (·.size) = some 1 := by kernel_rfl
      obtain ⟨i, h1, h2⟩ := Option.map_eq_some_iff.1 h
      exact ⟨i, h1, h2⟩
    obtain ⟨Ad, hsd, hD⟩ := fromG (d := Kd.string) Try.underlying44 hi9 (by assumption) A c l s HSL.out HC.out a HAS.out
    have HD := Aside0.mk hD
    have hst := toG Try.underlying44 hi9 A c l s HSL.out HC.out a HAS.out
    obtain ⟨Ae, hse, hE⟩ := fromG (d := Kd.int .i64) Try.underlying47 hi3 hz3 (some ⟨Ab, Ao, none⟩) c1 C (rn + 1) HRL.out (Kd.R_reads' (HP.out.row 0 rfl)).2.1 (r + 1) (by have := HRN.out; omega)
    have HE := Aside0.mk hE
    have hsf := toG Try.underlying47 hi3 (some ⟨Ab, Ao, none⟩) c1 C (rn + 1) HRL.out (Kd.R_reads' (HP.out.row 0 rfl)).2.1 (r + 1) (by have := HRN.out; omega)
    have HTC := Aside0.mk (show (C.take (rn + 1)).length ≤ c1 from by rw [List.length_take]; have := (Kd.R_reads' (HP.out.row 0 rfl)).2.1; omega)
    obtain ⟨k1, hk1⟩ := same_ints (C.drop (rn + 1)) (by rw [List.length_drop]; have := HCL.out; omega)
    obtain ⟨k2, hk2⟩ := same_ints (C.take (rn + 1)) (by rw [List.length_take]; have := HCL.out; omega)
    have HK1 := Aside0.mk hk1
    have HK2 := Aside0.mk hk2
    clear hD hE hk1 hk2 hi9 hi3 hz3
    have HSZ1 := Aside0.mk (show ∀ k ∈ l.drop s, k.size ≤ 1000000 from fun k hk => HSZ.out k (List.mem_of_mem_drop hk))
    have HSZ2 := Aside0.mk (show ∀ k ∈ l.take s, k.size ≤ 1000000 from fun k hk => HSZ.out k (List.mem_of_mem_take hk))
    have HKT := Aside0.mk (show ∀ w, KS.C w A l.length l → KS.C w A (l.take s).length (l.take s) from fun w h => Kd.C_take h HSL.out)
    have HCT := Aside0.mk (show ∀ w, (Kd.int .i64).C w (some ⟨Ab, Ao, none⟩) C.length C → (Kd.int .i64).C w (some ⟨Ab, Ao, none⟩) (C.take (rn + 1)).length (C.take (rn + 1)) from fun w h => Kd.C_take h HRL.out)
    obtain ⟨L1, hL1⟩ : ∃ L, l.drop s = L := ⟨_, rfl⟩
    obtain ⟨L2, hL2⟩ : ∃ L, l.take s = L := ⟨_, rfl⟩
    obtain ⟨D1, hD1⟩ : ∃ L, C.drop (rn + 1) = L := ⟨_, rfl⟩
    obtain ⟨D2, hD2⟩ : ∃ L, C.take (rn + 1) = L := ⟨_, rfl⟩
    rw [hL1] at hsd HD HDL HC1 HSZ1
    rw [hL2] at hst HTL HC2 HSZ2 HKT
    rw [hD1] at hse HE HC1 HK1
    rw [hD2] at hsf HTC HC2 HK2 HCT
    clear hL1 hL2 hD1 hD2
    refine held_named (S := (fun _ => True)) (by kernel_rfl) (fun wd14 hwd14 => ?_)
    have HPn := Aside0.mk (HP.out.drewN 1)
    rw [← World.drew_is_drewN, hwd14] at HPn
    clear HP hwd14
    have HP := HPn
    clear HPn
    refine ⟨by (try dsimp only); first | done | trivial, fun hHeld => ?_⟩
    refine wpAnyH_take (i := 0) (oi := ({ dst := (some 59), op := (Op.move (Operand.tmp 7)), type := 4, pos := "outright.go:98", after := #[], guard := none } : Oper)) (v := ?_) rfl (by kernel_rfl) (by kernel_rfl) (by kernel_rfl) (fun _ _ _ h => h) (Or.inl ⟨by rfl, ?_⟩) hHeld ?_
    rotate_left
    · intro w_ hSw; (try dsimp only at hSw); go_simp; try (with_reducible rfl)
    try simp only [Act.put, List.setIfInBounds_toArray, List.set_cons_zero, List.set_cons_succ]
    refine wpAnyH_take (i := 1) (oi := ({ dst := (some 60), op := (Op.move (Operand.tmp 59)), type := 4, pos := "outright.go:98", after := #[{ on := 0, ground := Ground.data }], guard := none } : Oper)) (v := ?_) rfl (by kernel_rfl) (by kernel_rfl) (by kernel_rfl) (fun _ _ _ h => h) (Or.inl ⟨by rfl, ?_⟩) hHeld ?_
    rotate_left
    · intro w_ hSw; (try dsimp only at hSw); go_simp; try (with_reducible rfl)
    try simp only [Act.put, List.setIfInBounds_toArray, List.set_cons_zero, List.set_cons_succ]
    refine wpAnyH_take (i := 2) (oi := ({ dst := (some 61), op := (Op.move (Operand.tmp 0)), type := 44, pos := "outright.go:98", after := #[{ on := 1, ground := Ground.guard }], guard := (some (1, true)) } : Oper)) (v := ?_) rfl (by kernel_rfl) (by kernel_rfl) (by kernel_rfl) (fun _ _ _ h => h) (Or.inl ⟨by rfl, ?_⟩) hHeld ?_
    rotate_left
    · intro w_ hSw; (try dsimp only at hSw); go_simp; try (with_reducible rfl)
    try simp only [Act.put, List.setIfInBounds_toArray, List.set_cons_zero, List.set_cons_succ]
    refine wpAnyH_take (i := 3) (oi := ({ dst := (some 62), op := (Op.move (Operand.tmp 10)), type := 3, pos := "outright.go:98", after := #[{ on := 1, ground := Ground.guard }], guard := (some (1, true)) } : Oper)) (v := ?_) rfl (by kernel_rfl) (by kernel_rfl) (by kernel_rfl) (fun _ _ _ h => h) (Or.inl ⟨by rfl, ?_⟩) hHeld ?_
    rotate_left
    · intro w_ hSw; (try dsimp only at hSw); go_simp; try (with_reducible rfl)
    try simp only [Act.put, List.setIfInBounds_toArray, List.set_cons_zero, List.set_cons_succ]
    refine wpAnyH_take (i := 4) (oi := ({ dst := (some 63), op := (Op.slice 44 (Operand.tmp 61) (some (Operand.tmp 62)) none none), type := 44, pos := "outright.go:98", after := #[{ on := 2, ground := Ground.data }, { on := 3, ground := Ground.data }, { on := 1, ground := Ground.guard }], guard := (some (1, true)) } : Oper)) (v := ?_) rfl (by kernel_rfl) (by kernel_rfl) (by kernel_rfl) (fun _ _ _ h => h) (Or.inl ⟨by rfl, ?_⟩) hHeld ?_
    rotate_left
    · intro w_ hSw; (try dsimp only at hSw); go_simp; try (with_reducible rfl)
    try simp only [Act.put, List.setIfInBounds_toArray, List.set_cons_zero, List.set_cons_succ]
    refine wpAnyH_take (i := 5) (oi := ({ dst := (some 64), op := (Op.move (Operand.tmp 1)), type := 3, pos := "outright.go:98", after := #[{ on := 1, ground := Ground.guard }], guard := (some (1, true)) } : Oper)) (v := ?_) rfl (by kernel_rfl) (by kernel_rfl) (by kernel_rfl) (fun _ _ _ h => h) (Or.inl ⟨by rfl, ?_⟩) hHeld ?_
    rotate_left
    · intro w_ hSw; (try dsimp only at hSw); go_simp; try (with_reducible rfl)
    try simp only [Act.put, List.setIfInBounds_toArray, List.set_cons_zero, List.set_cons_succ]
    refine wpAnyH_take (i := 7) (oi := ({ dst := (some 66), op := (Op.move (Operand.tmp 8)), type := 47, pos := "outright.go:98", after := #[{ on := 1, ground := Ground.guard }], guard := (some (1, true)) } : Oper)) (v := ?_) rfl (by kernel_rfl) (by kernel_rfl) (by kernel_rfl) (fun _ _ _ h => h) (Or.inl ⟨by rfl, ?_⟩) hHeld ?_
    rotate_left
    · intro w_ hSw; (try dsimp only at hSw); go_simp; try (with_reducible rfl)
    try simp only [Act.put, List.setIfInBounds_toArray, List.set_cons_zero, List.set_cons_succ]
    refine wpAnyH_take (i := 8) (oi := ({ dst := (some 67), op := (Op.move (Operand.tmp 9)), type := 3, pos := "outright.go:98", after := #[{ on := 1, ground := Ground.guard }], guard := (some (1, true)) } : Oper)) (v := ?_) rfl (by kernel_rfl) (by kernel_rfl) (by kernel_rfl) (fun _ _ _ h => h) (Or.inl ⟨by rfl, ?_⟩) hHeld ?_
    rotate_left
    · intro w_ hSw; (try dsimp only at hSw); go_simp; try (with_reducible rfl)
    try simp only [Act.put, List.setIfInBounds_toArray, List.set_cons_zero, List.set_cons_succ]
    refine wpAnyH_take (i := 9) (oi := ({ dst := (some 68), op := (Op.binOp BinOp.add 3 (Operand.tmp 67) (Operand.const (Value.int IntKind.i64 1)) 3), type := 3, pos := "outright.go:98", after := #[{ on := 8, ground := Ground.data }, { on := 1, ground := Ground.guard }], guard := (some (1, true)) } : Oper)) (v := ?_) rfl (by kernel_rfl) (by kernel_rfl) (by kernel_rfl) (fun _ _ _ h => h) (Or.inl ⟨by rfl, ?_⟩) hHeld ?_
    rotate_left
    · intro w_ hSw; (try dsimp only at hSw); go_simp; try (with_reducible rfl)
    try simp only [Act.put, List.setIfInBounds_toArray, List.set_cons_zero, List.set_cons_succ]
    refine wpAnyH_take (i := 10) (oi := ({ dst := (some 69), op := (Op.slice 47 (Operand.tmp 66) (some (Operand.tmp 68)) none none), type := 47, pos := "outright.go:98", after := #[{ on := 7, ground := Ground.data }, { on := 9, ground := Ground.data }, { on := 1, ground := Ground.guard }], guard := (some (1, true)) } : Oper)) (v := ?_) rfl (by kernel_rfl) (by kernel_rfl) (by kernel_rfl) (fun _ _ _ h => h) (Or.inl ⟨by rfl, ?_⟩) hHeld ?_
    rotate_left
    · intro w_ hSw; (try dsimp only at hSw); go_simp; try (with_reducible rfl)
    try simp only [Act.put, List.setIfInBounds_toArray, List.set_cons_zero, List.set_cons_succ]
    refine wpAnyH_ready (rs := [6]) (by kernel_rfl) (by simp) ?_
    refine AllReadyH.cons (o := ({ dst := (some 65), op := (Op.call { callee := (Callee.value (Operand.func 23)), args := #[(Operand.tmp 63), (Operand.tmp 64)], argTypes := #[44, 3] }), type := 47, pos := "outright.go:98", after := #[{ on := 4, ground := Ground.data }, { on := 5, ground := Ground.data }, { on := 1, ground := Ground.chain }, { on := 1, ground := Ground.guard }], guard := (some (1, true)) } : Oper)) rfl (fun K hK => ?_) AllReadyH.nil
    go_simp
    go_at_call 23; refine (c_cuts Ad (c - s) L1 lv _ (HD.out.2 _ (Kd.C_below HR.out HP.out.below)) HDL.out HSZ1.out).mono ?_; rintro e xw ⟨v_x, rfl, ho, hb⟩; have HPn := Aside0.mk (HP.out.newR hb ho); clear HP hb ho; have HP := HPn; clear HPn; obtain ⟨A_x, c_x, rfl⟩ := Kd.R_slice (HP.out.row 0 rfl)
    go_wp2_with fail
    clear hHeld
    refine hK.out _ _ ?_ (fun hHeld => ?_)
    · (try dsimp only); first | done | trivial
    clear hK K
    try simp only [Act.put, List.setIfInBounds_toArray, List.set_cons_zero, List.set_cons_succ]
    refine wpAnyH_ready (rs := [11]) (by kernel_rfl) (by simp) ?_
    refine AllReadyH.cons (o := ({ dst := (some 70), op := (Op.call { callee := (Callee.value (Operand.func 22)), args := #[(Operand.tmp 65), (Operand.tmp 69)], argTypes := #[47, 47] }), type := 4, pos := "outright.go:98", after := #[{ on := 6, ground := Ground.data }, { on := 10, ground := Ground.data }, { on := 6, ground := Ground.chain }, { on := 1, ground := Ground.guard }], guard := (some (1, true)) } : Oper)) rfl (fun K hK => ?_) AllReadyH.nil
    go_simp
    go_at_call 22; rw [HC1.out] at HP ⊢; refine (retconkit_SameInts.calls k1 A_x c_x D1 Ae (c1 - (rn + 1)) D1 true _ (Kd.R_reads' (HP.out.row 0 rfl)).2.2 (Kd.R_reads' (HP.out.row 0 rfl)).2.1 (HE.out.2 _ (Kd.R_reads' (HP.out.row 1 rfl)).2.2) HE.out.1 HK1.out).mono ?_; rintro e wy1 ⟨rfl, nd1_, rfl⟩; have HPn := Aside0.mk (HP.out.drewN nd1_); clear HP; have HP := HPn; clear HPn
    go_wp2_with fail
    clear hHeld
    refine hK.out _ _ ?_ (fun hHeld => ?_)
    · (try dsimp only); first | done | trivial
    clear hK K
    try simp only [Act.put, List.setIfInBounds_toArray, List.set_cons_zero, List.set_cons_succ]
    refine wpAnyH_take (i := 12) (oi := ({ dst := (some 71), op := (Op.pick (Operand.tmp 60) (Operand.tmp 70) (Operand.const (Value.bool false))), type := 4, pos := "outright.go:98", after := #[{ on := 1, ground := Ground.data }, { on := 11, ground := Ground.data }], guard := none } : Oper)) (v := ?_) rfl (by kernel_rfl) (by kernel_rfl) (by kernel_rfl) (fun _ _ _ h => h) (Or.inl ⟨by rfl, ?_⟩) hHeld ?_
    rotate_left
    · intro w_ hSw; (try dsimp only at hSw); go_simp; try (with_reducible rfl)
    try simp only [Act.put, List.setIfInBounds_toArray, List.set_cons_zero, List.set_cons_succ]
    refine wpAnyH_take (i := 13) (oi := ({ dst := (some 72), op := (Op.move (Operand.tmp 71)), type := 4, pos := "outright.go:98", after := #[{ on := 12, ground := Ground.data }, { on := 11, ground := Ground.chain }], guard := none } : Oper)) (v := ?_) rfl (by kernel_rfl) (by kernel_rfl) (by kernel_rfl) (fun _ _ _ h => h) (Or.inl ⟨by rfl, ?_⟩) hHeld ?_
    rotate_left
    · intro w_ hSw; (try dsimp only at hSw); go_simp; try (with_reducible rfl)
    try simp only [Act.put, List.setIfInBounds_toArray, List.set_cons_zero, List.set_cons_succ]
    refine wpAnyH_take (i := 14) (oi := ({ dst := (some 73), op := (Op.move (Operand.tmp 0)), type := 44, pos := "outright.go:98", after := #[{ on := 13, ground := Ground.guard }], guard := (some (13, true)) } : Oper)) (v := ?_) rfl (by kernel_rfl) (by kernel_rfl) (by kernel_rfl) (fun _ _ _ h => h) (Or.inl ⟨by rfl, ?_⟩) hHeld ?_
    rotate_left
    · intro w_ hSw; (try dsimp only at hSw); go_simp; try (with_reducible rfl)
    try simp only [Act.put, List.setIfInBounds_toArray, List.set_cons_zero, List.set_cons_succ]
    refine wpAnyH_take (i := 15) (oi := ({ dst := (some 74), op := (Op.move (Operand.tmp 10)), type := 3, pos := "outright.go:98", after := #[{ on := 13, ground := Ground.guard }], guard := (some (13, true)) } : Oper)) (v := ?_) rfl (by kernel_rfl) (by kernel_rfl) (by kernel_rfl) (fun _ _ _ h => h) (Or.inl ⟨by rfl, ?_⟩) hHeld ?_
    rotate_left
    · intro w_ hSw; (try dsimp only at hSw); go_simp; try (with_reducible rfl)
    try simp only [Act.put, List.setIfInBounds_toArray, List.set_cons_zero, List.set_cons_succ]
    refine wpAnyH_take (i := 16) (oi := ({ dst := (some 75), op := (Op.slice 44 (Operand.tmp 73) none (some (Operand.tmp 74)) none), type := 44, pos := "outright.go:98", after := #[{ on := 14, ground := Ground.data }, { on := 15, ground := Ground.data }, { on := 13, ground := Ground.guard }], guard := (some (13, true)) } : Oper)) (v := ?_) rfl (by kernel_rfl) (by kernel_rfl) (by kernel_rfl) (fun _ _ _ h => h) (Or.inl ⟨by rfl, ?_⟩) hHeld ?_
    rotate_left
    · intro w_ hSw; (try dsimp only at hSw); go_simp; try (with_reducible rfl)
    try simp only [Act.put, List.setIfInBounds_toArray, List.set_cons_zero, List.set_cons_succ]
    refine wpAnyH_take (i := 17) (oi := ({ dst := (some 76), op := (Op.move (Operand.tmp 1)), type := 3, pos := "outright.go:98", after := #[{ on := 13, ground := Ground.guard }], guard := (some (13, true)) } : Oper)) (v := ?_) rfl (by kernel_rfl) (by kernel_rfl) (by kernel_rfl) (fun _ _ _ h => h) (Or.inl ⟨by rfl, ?_⟩) hHeld ?_
    rotate_left
    · intro w_ hSw; (try dsimp only at hSw); go_simp; try (with_reducible rfl)
    try simp only [Act.put, List.setIfInBounds_toArray, List.set_cons_zero, List.set_cons_succ]
    refine wpAnyH_take (i := 19) (oi := ({ dst := (some 78), op := (Op.move (Operand.tmp 8)), type := 47, pos := "outright.go:98", after := #[{ on := 13, ground := Ground.guard }], guard := (some (13, true)) } : Oper)) (v := ?_) rfl (by kernel_rfl) (by kernel_rfl) (by kernel_rfl) (fun _ _ _ h => h) (Or.inl ⟨by rfl, ?_⟩) hHeld ?_
    rotate_left
    · intro w_ hSw; (try dsimp only at hSw); go_simp; try (with_reducible rfl)
    try simp only [Act.put, List.setIfInBounds_toArray, List.set_cons_zero, List.set_cons_succ]
    refine wpAnyH_take (i := 20) (oi := ({ dst := (some 79), op := (Op.move (Operand.tmp 9)), type := 3, pos := "outright.go:98", after := #[{ on := 13, ground := Ground.guard }], guard := (some (13, true)) } : Oper)) (v := ?_) rfl (by kernel_rfl) (by kernel_rfl) (by kernel_rfl) (fun _ _ _ h => h) (Or.inl ⟨by rfl, ?_⟩) hHeld ?_
    rotate_left
    · intro w_ hSw; (try dsimp only at hSw); go_simp; try (with_reducible rfl)
    try simp only [Act.put, List.setIfInBounds_toArray, List.set_cons_zero, List.set_cons_succ]
    refine wpAnyH_take (i := 21) (oi := ({ dst := (some 80), op := (Op.binOp BinOp.add 3 (Operand.tmp 79) (Operand.const (Value.int IntKind.i64 1)) 3), type := 3, pos := "outright.go:98", after := #[{ on := 20, ground := Ground.data }, { on := 13, ground := Ground.guard }], guard := (some (13, true)) } : Oper)) (v := ?_) rfl (by kernel_rfl) (by kernel_rfl) (by kernel_rfl) (fun _ _ _ h => h) (Or.inl ⟨by rfl, ?_⟩) hHeld ?_
    rotate_left
    · intro w_ hSw; (try dsimp only at hSw); go_simp; try (with_reducible rfl)
    try simp only [Act.put, List.setIfInBounds_toArray, List.set_cons_zero, List.set_cons_succ]
    refine wpAnyH_take (i := 22) (oi := ({ dst := (some 81), op := (Op.slice 47 (Operand.tmp 78) none (some (Operand.tmp 80)) none), type := 47, pos := "outright.go:98", after := #[{ on := 19, ground := Ground.data }, { on := 21, ground := Ground.data }, { on := 13, ground := Ground.guard }], guard := (some (13, true)) } : Oper)) (v := ?_) rfl (by kernel_rfl) (by kernel_rfl) (by kernel_rfl) (fun _ _ _ h => h) (Or.inl ⟨by rfl, ?_⟩) hHeld ?_
    rotate_left
    · intro w_ hSw; (try dsimp only at hSw); go_simp; try (with_reducible rfl)
    try simp only [Act.put, List.setIfInBounds_toArray, List.set_cons_zero, List.set_cons_succ]
    refine wpAnyH_ready (rs := [18]) (by kernel_rfl) (by simp) ?_
    refine AllReadyH.cons (o := ({ dst := (some 77), op := (Op.call { callee := (Callee.value (Operand.func 23)), args := #[(Operand.tmp 75), (Operand.tmp 76)], argTypes := #[44, 3] }), type := 47, pos := "outright.go:98", after := #[{ on := 16, ground := Ground.data }, { on := 17, ground := Ground.data }, { on := 13, ground := Ground.chain }, { on := 13, ground := Ground.guard }], guard := (some (13, true)) } : Oper)) rfl (fun K hK => ?_) AllReadyH.nil
    go_simp
    go_at_call 23; refine (c_cuts A c L2 lv _ (HKT.out _ (Kd.C_below HR.out HP.out.below)) HTL.out HSZ2.out).mono ?_; rintro e zw ⟨v_z, rfl, ho, hb⟩; have HPn := Aside0.mk (HP.out.newR hb ho); clear HP hb ho; have HP := HPn; clear HPn; obtain ⟨A_z, c_z, rfl⟩ := Kd.R_slice (HP.out.row 0 rfl)
    go_wp2_with fail
    clear hHeld
    refine hK.out _ _ ?_ (fun hHeld => ?_)
    · (try dsimp only); first | done | trivial
    clear hK K
    try simp only [Act.put, List.setIfInBounds_toArray, List.set_cons_zero, List.set_cons_succ]
    refine wpAnyH_ready (rs := [23]) (by kernel_rfl) (by simp) ?_
    refine AllReadyH.cons (o := ({ dst := (some 82), op := (Op.call { callee := (Callee.value (Operand.func 22)), args := #[(Operand.tmp 77), (Operand.tmp 81)], argTypes := #[47, 47] }), type := 4, pos := "outright.go:98", after := #[{ on := 18, ground := Ground.data }, { on := 22, ground := Ground.data }, { on := 18, ground := Ground.chain }, { on := 13, ground := Ground.guard }], guard := (some (13, true)) } : Oper)) rfl (fun K hK => ?_) AllReadyH.nil
    go_simp
    go_at_call 22; rw [HC2.out] at HP ⊢; refine (retconkit_SameInts.calls k2 A_z c_z D2 (some ⟨Ab, Ao, none⟩) c1 D2 true _ (Kd.R_reads' (HP.out.row 0 rfl)).2.2 (Kd.R_reads' (HP.out.row 0 rfl)).2.1 (HCT.out _ (Kd.R_reads' (HP.out.row 2 rfl)).2.2) HTC.out HK2.out).mono ?_; rintro e wy2 ⟨rfl, nd2_, rfl⟩; have HPn := Aside0.mk (HP.out.drewN nd2_); clear HP; have HP := HPn; clear HPn
    go_wp2_with fail
    clear hHeld
    refine hK.out _ _ ?_ (fun hHeld => ?_)
    · (try dsimp only); first | done | trivial
    clear hK K
    try simp only [Act.put, List.setIfInBounds_toArray, List.set_cons_zero, List.set_cons_succ]
    refine wpAnyH_take (i := 24) (oi := ({ dst := (some 83), op := (Op.pick (Operand.tmp 72) (Operand.tmp 82) (Operand.const (Value.bool false))), type := 4, pos := "outright.go:98", after := #[{ on := 13, ground := Ground.data }, { on := 23, ground := Ground.data }], guard := none } : Oper)) (v := ?_) rfl (by kernel_rfl) (by kernel_rfl) (by kernel_rfl) (fun _ _ _ h => h) (Or.inl ⟨by rfl, ?_⟩) hHeld ?_
    rotate_left
    · intro w_ hSw; (try dsimp only at hSw); go_simp; try (with_reducible rfl)
    try simp only [Act.put, List.setIfInBounds_toArray, List.set_cons_zero, List.set_cons_succ]
    refine wpAnyH_take (i := 25) (oi := ({ dst := (some 6), op := (Op.assign (Operand.tmp 83)), type := 4, pos := "outright.go:98", after := #[{ on := 24, ground := Ground.data }, { on := 23, ground := Ground.chain }, { on := 0, ground := Ground.phase }, { on := 1, ground := Ground.phase }, { on := 2, ground := Ground.phase }, { on := 3, ground := Ground.phase }, { on := 4, ground := Ground.phase }, { on := 5, ground := Ground.phase }, { on := 6, ground := Ground.phase }, { on := 7, ground := Ground.phase }, { on := 8, ground := Ground.phase }, { on := 9, ground := Ground.phase }, { on := 10, ground := Ground.phase }, { on := 11, ground := Ground.phase }, { on := 12, ground := Ground.phase }, { on := 13, ground := Ground.phase }, { on := 14, ground := Ground.phase }, { on := 15, ground := Ground.phase }, { on := 16, ground := Ground.phase }, { on := 17, ground := Ground.phase }, { on := 18, ground := Ground.phase }, { on := 19, ground := Ground.phase }, { on := 20, ground := Ground.phase }, { on := 21, ground := Ground.phase }, { on := 22, ground := Ground.phase }, { on := 23, ground := Ground.phase }, { on := 24, ground := Ground.phase }], guard := none } : Oper)) (v := ?_) rfl (by kernel_rfl) (by kernel_rfl) (by kernel_rfl) (fun _ _ _ h => h) (Or.inl ⟨by rfl, ?_⟩) hHeld ?_
    rotate_left
    · intro w_ hSw; (try dsimp only at hSw); go_simp; try (with_reducible rfl)
    try simp only [Act.put, List.setIfInBounds_toArray, List.set_cons_zero, List.set_cons_succ]
    refine wpAnyH_done (by kernel_rfl) ?_ _
    go_wp2_with fail
    go_ret
    exact ⟨rfl, HP.out.below⟩
end Go.Proofs.Ytlgnfbgjdkbfoaa.Pg
