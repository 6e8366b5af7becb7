import Derived.Test.YtpnjbogpooejhaaK4
namespace Go.Proofs.Ytpnjbogpooejhaa.H
open Go.RowKit Go.Proofs.Ytpnjbogpooejhaa.XH Go.Proofs.YtpnjbogpooejhaaW.PrintWords Go.Proofs.YtpnjbogpooejhaaW.PrintLast Go.Proofs.YtpnjbogpooejhaaW.PrintMore Go.Proofs.YtpnjbogpooejhaaXe Go.Proofs.YtpnjbogpooejhaaXs
set_option linter.unusedVariables false
set_option linter.unusedSimpArgs false
attribute [local go_sem ↓] Go.wp_at_zero Go.wp_at_succ
attribute [local go_sem] valUpon
set_option maxRecDepth 1000000 in
theorem ev_nil : strOfNums (txI (sha (bysI ⟨#[]⟩))) = ⟨#[101, 51, 98, 48, 99, 52, 52, 50, 57, 56, 102, 99, 49, 99, 49, 52, 57, 97, 102, 98, 102, 52, 99, 56, 57, 57, 54, 102, 98, 57, 50, 52, 50, 55, 97, 101, 52, 49, 101, 52, 54, 52, 57, 98, 57, 51, 52, 99, 97, 52, 57, 53, 57, 57, 49, 98, 55, 56, 53, 50, 98, 56, 53, 53]⟩ := by kernel_rfl
set_option maxRecDepth 1000000 in
theorem ev_abc : strOfNums (txI (sha (bysI ⟨#[97, 98, 99]⟩))) = ⟨#[98, 97, 55, 56, 49, 54, 98, 102, 56, 102, 48, 49, 99, 102, 101, 97, 52, 49, 52, 49, 52, 48, 100, 101, 53, 100, 97, 101, 50, 50, 50, 51, 98, 48, 48, 51, 54, 49, 97, 51, 57, 54, 49, 55, 55, 97, 57, 99, 98, 52, 49, 48, 102, 102, 54, 49, 102, 50, 48, 48, 49, 53, 97, 100]⟩ := by kernel_rfl
theorem ev_63 : retconlaw02_noughts.f 70 63 = some (strOfNums (List.replicate 63 48)) := by kernel_rfl
theorem ev_p63 : parS (strOfNums (List.replicate 63 48)) = ⟨z32, 4, 63⟩ := by kernel_rfl
set_option maxHeartbeats 8000000 in
set_option maxRecDepth 100000 in
theorem c_awake (w : World) : Calls Try.prog 10 #[] w fun e w' => e = .returned (.bool true) ∧ Below w.heap.size w w' := by
  have HP := Aside0.mk (Hp.start w)
  obtain ⟨s63, hs63⟩ : ∃ s, strOfNums (List.replicate 63 48) = s := ⟨_, rfl⟩
  have C3 := Aside0.mk (fun w => retconlaw02_noughts.calls 70 63 _ w ev_63)
  have C4 := Aside0.mk (fun w => c_stops _ (by rw [strOfNums_size]; decide) 63 ev_p63 w)
  rw [hs63] at C3 C4
  clear hs63
  go_enter Try.func10, Try.ntmps10
  go_wp2_with fail
  (with_reducible refine (c_named _ _ (by decide) ev_nil _).mono ?_); rintro e wn1 ⟨rfl, hb⟩; have HPn := Aside0.mk (HP.out.call hb); clear HP; have HP := HPn; clear HPn hb
  go_wp2_with fail
  (with_reducible refine (c_named _ _ (by decide) ev_abc _).mono ?_); rintro e wn2 ⟨rfl, hb⟩; have HPn := Aside0.mk (HP.out.call hb); clear HP; have HP := HPn; clear HPn hb
  go_wp2_with fail
  (with_reducible refine (C3.out _).mono ?_); rintro e wn3 ⟨rfl, hb⟩; have HPn := Aside0.mk (HP.out.call hb); clear HP; have HP := HPn; clear HPn hb
  go_wp2_with fail
  (with_reducible refine (C4.out _).mono ?_); rintro e wn4 ⟨rfl, hb⟩; have HPn := Aside0.mk (HP.out.call hb); clear HP; have HP := HPn; clear HPn hb
  go_wp2_with fail
  go_ret
  exact ⟨rfl, HP.out.below⟩
end Go.Proofs.Ytpnjbogpooejhaa.H
