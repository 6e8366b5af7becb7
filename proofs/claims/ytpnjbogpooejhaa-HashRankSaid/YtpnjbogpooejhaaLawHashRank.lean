/- The order of names, as bytes, is that of their texts, and names are the same just if their texts are; for any two IDs. -/
import Derived.Test.YtpnjbogpooejhaaRows
import Derived.Test.YtpnjbogpooejhaaL2
import Derived.WalkKit
import Derived.ProofKit
import Derived.OpenShut
import Derived.ShutString
import Derived.ChangeOld
import Derived.Below
import Derived.SizedLaws
import Derived.Test.YtpnjbogpooejhaaWSized
import Derived.Test.YtpnjbogpooejhaaXr
namespace Go.Proofs.Ytpnjbogpooejhaa.hashRank
open Go.ChangeShapes Go.WideShapes Go.ChangeAt Go.RowKit
open Go.ChangeMaps (open_string shut_string)
set_option linter.unusedVariables false
theorem own : ownKnob Try.prog.godebug = none := by kernel_rfl
theorem laidOut : laidOutB Try.prog = true := by kernel_rfl
theorem el23 {H : Type} {enc : TypeId × Value → H} {W : World} {base : Nat} {spare : Nat → Bool} {held : Bool} (n : Nat) (cs : List Value) (y : DataW H × List MemPlace)
    (h : DataW.trod enc Try.prog W base spare held n 23 cs = some y) : ∃ a : List Int, (cs = Go.Proofs.Ytpnjbogpooejhaa.H.u8s a ∧ a.length = 32) ∧ ∀ x ∈ a, 0 ≤ x ∧ x < 256 := by
  obtain ⟨l, hl, rfl, hw⟩ := Go.Proofs.YtpnjbogpooejhaaXr.el_arr Try.underlying23 Try.underlying5 (by kernel_rfl) (by kernel_rfl) h
  refine ⟨l, ⟨rfl, hl⟩, fun x hx => ?_⟩
  have := hw x hx
  simp [Lit.wf, IntKind.min, IntKind.max, IntKind.signed, IntKind.bits] at this
  omega
set_option maxRecDepth 100000 in
theorem lifted (os : Os) (started : os.Started) (H : Type) (enc : TypeId × Value → H) :
    ReturnsInHanded {} Try.checked os 5 .any (Rows.hashRankSpec.pre6 enc Try.prog Try.f5 Rows.hashRankRow.domain false) (Rows.hashRankSpec.post enc Try.prog Try.f5 false true false false) := by
  refine returnsInHanded_of_change_sized (C := Try.checked) own started (by kernel_rfl) Try.func5
    (ChangeSpec.witness6 (enc := enc) (C := Try.checked) false ⟨#[], #[.agg (Go.Proofs.Ytpnjbogpooejhaa.H.u8s Go.Proofs.Ytpnjbogpooejhaa.H.z32).toArray, .agg (Go.Proofs.Ytpnjbogpooejhaa.H.u8s Go.Proofs.Ytpnjbogpooejhaa.H.z32).toArray], []⟩ 8 (by kernel_rfl) (by kernel_rfl) (by kernel_rfl) (by kernel_rfl)) ?_
  intro W base args ds gs before hval0 hW hcnd hsz0 _
  have hsz : (DataW.weightsEach Try.prog (Try.f5.params.toList ++ Rows.hashRankSpec.plain.varTypes Try.prog) (ds ++ gs)).all (· ≤ reachBytes) = true := hsz0
  have hval : ∀ (j : Nat) t v, Try.f5.params[j]? = some t → args[j]? = some v → Value.okWide Try.prog W .any base t v := hval0
  have hW' := hW
  obtain ⟨p, q, hA0, hV, rfl, hfz, hnd⟩ := hW
  have hA : DataW.TrodAll enc Try.prog W 0 (fun _ => true) true Try.f5.params.toList args.toList ds p := hA0
  rw [Try.params5] at hA hval hsz
  obtain ⟨v0, vs0, d0, ds0, p0, q0, hargs, rfl, rfl, h0, r0⟩ := trodAll_cons hA
  obtain ⟨v1, vs1, d1, ds1, p1, q1, rfl, rfl, rfl, h1, r1⟩ := trodAll_cons r0
  obtain ⟨rfl, rfl, rfl⟩ := trodAll_nil r1
  obtain rfl : args = #[v0, v1] := by cases args; simp_all
  obtain ⟨rfl, rfl⟩ := trodVars_none hV
  obtain ⟨cs0, rfl, _⟩ := Go.Proofs.YtpnjbogpooejhaaXr.okWide_array Try.underlying23 (hval 0 23 v0 rfl rfl)
  have k0 := h0
  have lt0 : ∀ x ∈ p0, x.block < W.heap.size := by obtain ⟨m, hm⟩ := k0; exact DataW.trod_lt m _ _ _ hm
  obtain ⟨x0, hK0, hw0⟩ : ∃ a, (fun a cs => cs = Go.Proofs.Ytpnjbogpooejhaa.H.u8s a ∧ a.length = 32) a cs0.toList ∧ (fun a => ∀ x ∈ a, 0 ≤ x ∧ x < 256) a := by obtain ⟨m, hm⟩ := h0; exact el23 m _ _ hm
  obtain ⟨hK0, hl0⟩ := hK0; obtain rfl : cs0 = (Go.Proofs.Ytpnjbogpooejhaa.H.u8s x0).toArray := by rw [← hK0]
  obtain ⟨cs1, rfl, _⟩ := Go.Proofs.YtpnjbogpooejhaaXr.okWide_array Try.underlying23 (hval 1 23 v1 rfl rfl)
  have k1 := h1
  have lt1 : ∀ x ∈ p1, x.block < W.heap.size := by obtain ⟨m, hm⟩ := k1; exact DataW.trod_lt m _ _ _ hm
  obtain ⟨x1, hK1, hw1⟩ : ∃ a, (fun a cs => cs = Go.Proofs.Ytpnjbogpooejhaa.H.u8s a ∧ a.length = 32) a cs1.toList ∧ (fun a => ∀ x ∈ a, 0 ≤ x ∧ x < 256) a := by obtain ⟨m, hm⟩ := h1; exact el23 m _ _ hm
  obtain ⟨hK1, hl1⟩ := hK1; obtain rfl : cs1 = (Go.Proofs.Ytpnjbogpooejhaa.H.u8s x1).toArray := by rw [← hK1]
  clear hA0 hval0 hsz0 hsz
  refine (Go.Proofs.Ytpnjbogpooejhaa.H.hashRank_law x0 hl0 hw0 x1 hl1 hw1 W).mono fun e W' ⟨he, bel⟩ => ?_
  subst he
  exact ⟨_, rfl, _, _, _, [], _, [], hW', trodAll_mk1 (shut_bool Try.underlying4 _), (trodAll_cons_mk (Below.trod laidOut (by kernel_rfl) (of_decide_eq_true (by kernel_rfl)) k0 bel lt0) (trodAll_cons_mk (Below.trod laidOut (by kernel_rfl) (of_decide_eq_true (by kernel_rfl)) k1 bel lt1) trodAll_mk0)), rfl, bel.frame _, fun h => by cases h⟩
theorem over : Rows.hashRankRow.holds Try.pinned (OpenSpec.ofChange Rows.hashRankSpec) :=
  OpenClaim.holds_of_wide 5 Try.f5 rfl rfl rfl rfl rfl rfl rfl ⟨rfl, rfl, rfl, rfl, rfl⟩ rfl rfl rfl rfl rfl (by kernel_rfl) Try.func5 (by kernel_rfl)
    (of_decide_eq_true (by kernel_rfl)) (by unfold Func.isWrapper; first | (rw [if_pos (by decide +kernel)]; kernel_rfl) | (rw [if_neg (by decide +kernel)]; exact ⟨rfl, rfl⟩))
    (fun os started H enc _ => lifted os started H enc)
theorem proved : Rows.HashRankSaid := over
#print axioms proved
end Go.Proofs.Ytpnjbogpooejhaa.hashRank
namespace Go.Proofs.Ytpnjbogpooejhaa
/-- The row, under a short name, for the claim. -/
theorem hashRank_holds : Rows.HashRankSaid := hashRank.proved
end Go.Proofs.Ytpnjbogpooejhaa
