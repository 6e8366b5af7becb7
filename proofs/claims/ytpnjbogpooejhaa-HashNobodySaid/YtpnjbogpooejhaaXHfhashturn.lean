-- Printed by xprint.py (a program of this work, over the kit's print.py). Lean checks it.
import Derived.Test.YtpnjbogpooejhaaXH0
import Derived.Test.YtpnjbogpooejhaaXHfbitsRotateLeft32
namespace Go.Proofs.Ytpnjbogpooejhaa.XH
open Go.RowKit Go.Proofs.YtpnjbogpooejhaaW.PrintWords Go.Proofs.YtpnjbogpooejhaaW.PrintLast Go.Proofs.YtpnjbogpooejhaaW.PrintMore
attribute [local go_sem] max2_int min2_int max_two min_two max_three min_three max_four min_four   -- for this text's walks alone
set_option linter.unusedVariables false
set_option linter.unusedSimpArgs false

-- NOT PRINTED: function 45 (bytealg_IndexByteString)

-- NOT PRINTED: function 37 (stringslite_IndexByte)

-- NOT PRINTED: function 28 (strings_IndexByte)

-- NOT PRINTED: function 11 (hash_Parse)

-- NOT PRINTED: function 15 (retconlaw02_stops)

-- NOT PRINTED: function 13 (hash_Text)

/-! ### hash_turn: function 38 -/
def hash_turn.f (a0 : Int) (a1 : Int) : Option (Int) := (bits_RotateLeft32.f a0 (wrap64 (-a1))).bind fun t102 => (some t102)
set_option maxHeartbeats 8000000 in
set_option maxRecDepth 100000 in
theorem hash_turn.calls (a0 : Int) (a1 : Int) (r : Int) (w : World) (h : hash_turn.f a0 a1 = some r) :
    Calls Try.prog 38 #[.int .u32 a0, .int .i64 a1] w fun e w' => e = .returned (.int .u32 r) ∧ Drawn0 w w' := by
  have H : ((bits_RotateLeft32.f a0 (wrap64 (-a1))).bind fun t102 => (some t102)) = some r := h
  clear h
  replace H := Option.bind_eq_some_iff.mp H
  obtain ⟨t102, A30, H⟩ := H
  replace H : (some t102) = some r := H
  have A3 := Aside0.mk A30
  clear A30
  obtain rfl := Option.some.inj H
  go_enter Try.func38, Try.ntmps38
  go_wp2_with (first | ((with_reducible refine gate_callee (f := 46) rfl ?_); refine goesL_ (some 8) rfl rfl Try.func46 (by kernel_rfl) rfl #[.int .u32 a0, .int .i64 (wrap64 (-a1))] rfl (by (try simp only [List.map_toArray, List.map_cons, List.map_nil]); first | done | rfl | (simp only [List.length_drop, List.length_take]; rfl)) ?_; (with_reducible refine (bits_RotateLeft32.calls a0 (wrap64 (-a1)) t102 _ A3.out).mono ?_); rintro e w' ⟨rfl, ⟨nd, rfl⟩⟩; refine ⟨_, rfl, ?_⟩))
  go_ret
  exact ⟨by first | rfl | (simp; done) | (simp [*]; done), by repeat (first | exact Drawn0.refl _ | apply Drawn0.step)⟩

-- NOT PRINTED: function 39 (hash_words)

-- NOT PRINTED: function 32 (hash_state_behind)

-- NOT PRINTED: function 20 (hash_Digest_Write)

-- NOT PRINTED: function 24 (hash_Digest_Sum)

-- NOT PRINTED: function 19 (hash_Sum)

-- NOT PRINTED: function 26 (retconlaw02_named)

end Go.Proofs.Ytpnjbogpooejhaa.XH
