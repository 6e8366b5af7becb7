import Derived.Test.YtpnjbogpooejhaaH5
namespace Go.Proofs.Ytpnjbogpooejhaa.H
open Go.RowKit Go.Proofs.Ytpnjbogpooejhaa.XH Go.Proofs.YtpnjbogpooejhaaW.PrintWords Go.Proofs.YtpnjbogpooejhaaW.PrintLast Go.Proofs.YtpnjbogpooejhaaW.PrintMore Go.Proofs.YtpnjbogpooejhaaXe Go.Proofs.YtpnjbogpooejhaaXs
set_option linter.unusedVariables false
set_option linter.unusedSimpArgs false
attribute [local go_sem ↓] Go.wp_at_zero Go.wp_at_succ
attribute [local go_sem] valUpon
attribute [local go_sem ↓ high] bn52 bn67 bn23
attribute [local go_sem high] BN52.run BN67.run BN23.run
theorem sha_len (M : List Int) : (sha M).length = 32 := outI_len _ _ (Nat.le_refl _)
set_option maxHeartbeats 8000000 in
set_option maxRecDepth 100000 in
theorem c_hsum (A : Option Addr) (c : Nat) (b : List Int) (w : World) (hr : Kd.C (Kd.int .u8) w A b.length b) (hc : b.length ≤ c) (hm : b.length ≤ 100000000000000) :
    Calls Try.prog 19 #[.slice A b.length c] w fun e w' => e = .returned (.agg (u8s (sha b)).toArray) ∧ Below w.heap.size w w' := by
  have HR := Aside0.mk hr
  have HC := Aside0.mk hc
  have HM2 := Aside0.mk hm
  have HM1 := Aside0.mk (show ([] : List Int).length + b.length ≤ 1000000000000000 by simp; omega)
  have HP := Aside0.mk (Hp.start w)
  clear hr hc hm
  go_enter Try.func19, Try.ntmps19
  go_wp2_with (first | ((with_reducible refine gate_dst (N := 2) rfl ?_); refine ev_alloc rfl 23 rfl (.agg (u8s (List.replicate 32 0)).toArray) (by kernel_rfl) ?_; intro g_o wn1 hge hg hb; have HPn := Aside0.mk (HP.out.newB hb hg hge); clear HP; have HP := HPn; clear HPn; clear hge hg hb))
  (with_reducible refine (c_new _).mono ?_); rintro e wn2 ⟨g, rfl, hge, hg, hb⟩; have HPn := Aside0.mk (HP.out.newB hb hg hge); clear HP hge hg hb; have HP := HPn; clear HPn
  go_wp2_with fail
  refine (c_write HP.out 0 g H0 _ [] b rfl dig0 A c HC.out HM1.out (fun w1 v1 p1 n1 hp => Kd.C_below HR.out hp.below)).mono ?_; rintro e wn3 ⟨rfl, vv, pp, hd, hp⟩; rw [List.nil_append] at hd hp; have HPn := Aside0.mk (show Hp w wn3 [.blk g (.cells (dc true vv pp (b.length : Int)).toArray 52 (0, 0)), .blk g_o (.cells (u8s (List.replicate 32 0)).toArray 23 (0, 0))] from hp); have HD := Aside0.mk hd; clear HP hd hp; have HP := HPn; clear HPn
  go_wp2_with fail
  refine (c_sum g vv pp b _ (HP.out.blk 0 rfl) HD.out HM2.out).mono ?_; rintro e wn4 ⟨rfl, hb⟩; have HPn := Aside0.mk (HP.out.call hb); clear HP hb; have HP := HPn; clear HPn
  go_wp2_with (first | ((with_reducible refine gate_store (t := 23) (p := 2) rfl ?_); refine ev_store rfl 23 (.tmp 2) (.tmp 9) rfl rfl _ rfl (cells := (u8s (sha b)).toArray) rfl (HP.out.blk 1 rfl) (by rw [List.size_toArray, u8s_len, sha_len]; kernel_rfl) (by rw [List.size_toArray, List.size_toArray, u8s_len, u8s_len, sha_len]; rfl) (one_u8 _) ?_; intro wn5 hg hgr; have HPn := Aside0.mk (HP.out.setB 1 rfl hgr hg); clear HP; have HP := HPn; clear HPn; clear hg hgr))
  refine bodyPost_ret (results_cell_row rfl _ _ g_o 23 (u8s (sha b)).toArray (0, 0) _ rfl (HP.out.blk 1 rfl) Try.underlying23 rfl (by rw [List.size_toArray, u8s_len, sha_len]; kernel_rfl)) rfl ?_
  exact ⟨rfl, HP.out.below⟩
end Go.Proofs.Ytpnjbogpooejhaa.H
