/- A name's text is that name, and another byte in the place of one of its digits is refused there, or names another ID; for every input. -/
import Derived.Test.YtpnjbogpooejhaaRows
import Derived.Test.YtpnjbogpooejhaaL3
import Derived.WalkKit
import Derived.ProofKit
import Derived.OpenShut
import Derived.ShutString
import Derived.ChangeOld
import Derived.Below
import Derived.SizedLaws
import Derived.Test.YtpnjbogpooejhaaWSized
import Derived.Test.YtpnjbogpooejhaaXr
namespace Go.Proofs.Ytpnjbogpooejhaa.hashDigit
open Go.ChangeShapes Go.WideShapes Go.ChangeAt Go.RowKit
open Go.ChangeMaps (open_string shut_string)
set_option linter.unusedVariables false
theorem own : ownKnob Try.prog.godebug = none := by kernel_rfl
theorem laidOut : laidOutB Try.prog = true := by kernel_rfl
theorem el23 {H : Type} {enc : TypeId × Value → H} {W : World} {base : Nat} {spare : Nat → Bool} {held : Bool} (n : Nat) (cs : List Value) (y : DataW H × List MemPlace)
    (h : DataW.trod enc Try.prog W base spare held n 23 cs = some y) : ∃ a : List Int, (cs = Go.Proofs.Ytpnjbogpooejhaa.H.u8s a ∧ a.length = 32) ∧ ∀ x ∈ a, 0 ≤ x ∧ x < 256 := by
  obtain ⟨l, hl, rfl, hw⟩ := Go.Proofs.YtpnjbogpooejhaaXr.el_arr Try.underlying23 Try.underlying5 (by kernel_rfl) (by kernel_rfl) h
  refine ⟨l, ⟨rfl, hl⟩, fun x hx => ?_⟩
  have := hw x hx
  simp [Lit.wf, IntKind.min, IntKind.max, IntKind.signed, IntKind.bits] at this
  omega
theorem el5 {H : Type} {enc : TypeId × Value → H} {W : World} {base : Nat} {spare : Nat → Bool} {held : Bool} (n : Nat) (cs : List Value) (y : DataW H × List MemPlace)
    (h : DataW.trod enc Try.prog W base spare held n 5 cs = some y) : ∃ a, (Go.Proofs.YtpnjbogpooejhaaW.PrintWords.Kd.int .u8).K W a cs ∧ 0 ≤ a ∧ a < 256 := by
  obtain ⟨a, rfl, hw⟩ := Go.Proofs.YtpnjbogpooejhaaXr.el_int Try.underlying5 h
  refine ⟨a, rfl, ?_⟩
  simp [Lit.wf, IntKind.min, IntKind.max, IntKind.signed, IntKind.bits] at hw
  omega
theorem el32 {H : Type} {enc : TypeId × Value → H} {W : World} {base : Nat} {spare : Nat → Bool} {held : Bool} (n : Nat) (cs : List Value) (y : DataW H × List MemPlace)
    (h : DataW.trod enc Try.prog W base spare held n 32 cs = some y) : ∃ a, (Go.Proofs.YtpnjbogpooejhaaW.PrintWords.Kd.slice 5 (Go.Proofs.YtpnjbogpooejhaaW.PrintWords.Kd.int .u8)).K W a cs ∧ ∀ x ∈ a, 0 ≤ x ∧ x < 256 :=
  Go.Proofs.YtpnjbogpooejhaaXr.el_slice _ _ el5 Try.underlying32 (by kernel_rfl) h
set_option maxRecDepth 100000 in
theorem lifted (os : Os) (started : os.Started) (H : Type) (enc : TypeId × Value → H) :
    ReturnsInHanded {} Try.checked os 4 .any (Rows.hashDigitSpec.pre6 enc Try.prog Try.f4 Rows.hashDigitRow.domain false) (Rows.hashDigitSpec.post enc Try.prog Try.f4 false true false false) := by
  refine returnsInHanded_of_change_sized (C := Try.checked) own started (by kernel_rfl) Try.func4
    (ChangeSpec.witness6 (enc := enc) (C := Try.checked) false ⟨#[], #[.agg (Go.Proofs.Ytpnjbogpooejhaa.H.u8s Go.Proofs.Ytpnjbogpooejhaa.H.z32).toArray, .int .i64 0, .int .u8 0], []⟩ 8 (by kernel_rfl) (by kernel_rfl) (by kernel_rfl) (by kernel_rfl)) ?_
  intro W base args ds gs before hval0 hW hcnd hsz0 _
  have hsz : (DataW.weightsEach Try.prog (Try.f4.params.toList ++ Rows.hashDigitSpec.plain.varTypes Try.prog) (ds ++ gs)).all (· ≤ reachBytes) = true := hsz0
  have hval : ∀ (j : Nat) t v, Try.f4.params[j]? = some t → args[j]? = some v → Value.okWide Try.prog W .any base t v := hval0
  have hW' := hW
  obtain ⟨p, q, hA0, hV, rfl, hfz, hnd⟩ := hW
  have hA : DataW.TrodAll enc Try.prog W 0 (fun _ => true) true Try.f4.params.toList args.toList ds p := hA0
  rw [Try.params4] at hA hval hsz
  obtain ⟨v0, vs0, d0, ds0, p0, q0, hargs, rfl, rfl, h0, r0⟩ := trodAll_cons hA
  obtain ⟨v1, vs1, d1, ds1, p1, q1, rfl, rfl, rfl, h1, r1⟩ := trodAll_cons r0
  obtain ⟨v2, vs2, d2, ds2, p2, q2, rfl, rfl, rfl, h2, r2⟩ := trodAll_cons r1
  obtain ⟨rfl, rfl, rfl⟩ := trodAll_nil r2
  obtain rfl : args = #[v0, v1, v2] := by cases args; simp_all
  obtain ⟨rfl, rfl⟩ := trodVars_none hV
  obtain ⟨cs0, rfl, _⟩ := Go.Proofs.YtpnjbogpooejhaaXr.okWide_array Try.underlying23 (hval 0 23 v0 rfl rfl)
  have k0 := h0
  have lt0 : ∀ x ∈ p0, x.block < W.heap.size := by obtain ⟨m, hm⟩ := k0; exact DataW.trod_lt m _ _ _ hm
  obtain ⟨x0, hK0, hw0⟩ : ∃ a, (fun a cs => cs = Go.Proofs.Ytpnjbogpooejhaa.H.u8s a ∧ a.length = 32) a cs0.toList ∧ (fun a => ∀ x ∈ a, 0 ≤ x ∧ x < 256) a := by obtain ⟨m, hm⟩ := h0; exact el23 m _ _ hm
  obtain ⟨hK0, hl0⟩ := hK0; obtain rfl : cs0 = (Go.Proofs.Ytpnjbogpooejhaa.H.u8s x0).toArray := by rw [← hK0]
  obtain ⟨a1, rfl, rfl, rfl, w1⟩ := open_int Try.underlying3 (hval 1 3 v1 rfl rfl) h1
  obtain ⟨a2, rfl, rfl, rfl, w2⟩ := open_int Try.underlying5 (hval 2 5 v2 rfl rfl) h2
  clear hA0 hval0 hsz0 hsz
  refine (Go.Proofs.Ytpnjbogpooejhaa.H.hashDigit_law x0 hl0 hw0 a1 (Go.Proofs.YtpnjbogpooejhaaXe.wf64 w1) a2 (Go.Proofs.Ytpnjbogpooejhaa.H.wf8 w2) W).mono fun e W' ⟨he, bel⟩ => ?_
  subst he
  exact ⟨_, rfl, _, _, _, [], _, [], hW', trodAll_mk1 (shut_bool Try.underlying4 _), (trodAll_cons_mk (Below.trod laidOut (by kernel_rfl) (of_decide_eq_true (by kernel_rfl)) k0 bel lt0) (trodAll_cons_mk (shut_int Try.underlying3 w1) (trodAll_cons_mk (shut_int Try.underlying5 w2) trodAll_mk0))), rfl, bel.frame _, fun h => by cases h⟩
theorem over : Rows.hashDigitRow.holds Try.pinned (OpenSpec.ofChange Rows.hashDigitSpec) :=
  OpenClaim.holds_of_wide 4 Try.f4 rfl rfl rfl rfl rfl rfl rfl ⟨rfl, rfl, rfl, rfl, rfl⟩ rfl rfl rfl rfl rfl (by kernel_rfl) Try.func4 (by kernel_rfl)
    (of_decide_eq_true (by kernel_rfl)) (by unfold Func.isWrapper; first | (rw [if_pos (by decide +kernel)]; kernel_rfl) | (rw [if_neg (by decide +kernel)]; exact ⟨rfl, rfl⟩))
    (fun os started H enc _ => lifted os started H enc)
theorem proved : Rows.HashDigitSaid := over
#print axioms proved
end Go.Proofs.Ytpnjbogpooejhaa.hashDigit
namespace Go.Proofs.Ytpnjbogpooejhaa
/-- The row, under a short name, for the claim. -/
theorem hashDigit_holds : Rows.HashDigitSaid := hashDigit.proved
end Go.Proofs.Ytpnjbogpooejhaa
