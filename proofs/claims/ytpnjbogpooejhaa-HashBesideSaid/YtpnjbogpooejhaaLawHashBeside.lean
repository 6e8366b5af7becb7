/- Digests that grow side by side do not touch one another; for every input. -/
import Derived.Test.YtpnjbogpooejhaaRows
import Derived.Test.YtpnjbogpooejhaaL6
import Derived.WalkKit
import Derived.ProofKit
import Derived.OpenShut
import Derived.ShutString
import Derived.ChangeOld
import Derived.Below
import Derived.SizedLaws
import Derived.Test.YtpnjbogpooejhaaWSized
import Derived.Test.YtpnjbogpooejhaaXr
namespace Go.Proofs.Ytpnjbogpooejhaa.hashBeside
open Go.ChangeShapes Go.WideShapes Go.ChangeAt Go.RowKit
open Go.ChangeMaps (open_string shut_string)
set_option linter.unusedVariables false
theorem own : ownKnob Try.prog.godebug = none := by kernel_rfl
theorem laidOut : laidOutB Try.prog = true := by kernel_rfl
theorem el23 {H : Type} {enc : TypeId × Value → H} {W : World} {base : Nat} {spare : Nat → Bool} {held : Bool} (n : Nat) (cs : List Value) (y : DataW H × List MemPlace)
    (h : DataW.trod enc Try.prog W base spare held n 23 cs = some y) : ∃ a : List Int, (cs = Go.Proofs.Ytpnjbogpooejhaa.H.u8s a ∧ a.length = 32) ∧ ∀ x ∈ a, 0 ≤ x ∧ x < 256 := by
  obtain ⟨l, hl, rfl, hw⟩ := Go.Proofs.YtpnjbogpooejhaaXr.el_arr Try.underlying23 Try.underlying5 (by kernel_rfl) (by kernel_rfl) h
  refine ⟨l, ⟨rfl, hl⟩, fun x hx => ?_⟩
  have := hw x hx
  simp [Lit.wf, IntKind.min, IntKind.max, IntKind.signed, IntKind.bits] at this
  omega
theorem el5 {H : Type} {enc : TypeId × Value → H} {W : World} {base : Nat} {spare : Nat → Bool} {held : Bool} (n : Nat) (cs : List Value) (y : DataW H × List MemPlace)
    (h : DataW.trod enc Try.prog W base spare held n 5 cs = some y) : ∃ a, (Go.Proofs.YtpnjbogpooejhaaW.PrintWords.Kd.int .u8).K W a cs ∧ 0 ≤ a ∧ a < 256 := by
  obtain ⟨a, rfl, hw⟩ := Go.Proofs.YtpnjbogpooejhaaXr.el_int Try.underlying5 h
  refine ⟨a, rfl, ?_⟩
  simp [Lit.wf, IntKind.min, IntKind.max, IntKind.signed, IntKind.bits] at hw
  omega
theorem el32 {H : Type} {enc : TypeId × Value → H} {W : World} {base : Nat} {spare : Nat → Bool} {held : Bool} (n : Nat) (cs : List Value) (y : DataW H × List MemPlace)
    (h : DataW.trod enc Try.prog W base spare held n 32 cs = some y) : ∃ a, (Go.Proofs.YtpnjbogpooejhaaW.PrintWords.Kd.slice 5 (Go.Proofs.YtpnjbogpooejhaaW.PrintWords.Kd.int .u8)).K W a cs ∧ ∀ x ∈ a, 0 ≤ x ∧ x < 256 :=
  Go.Proofs.YtpnjbogpooejhaaXr.el_slice _ _ el5 Try.underlying32 (by kernel_rfl) h
set_option maxRecDepth 100000 in
theorem lifted (os : Os) (started : os.Started) (H : Type) (enc : TypeId × Value → H) :
    ReturnsInHanded {} Try.checked os 9 .any (Rows.hashBesideSpec.pre6 enc Try.prog Try.f9 Rows.hashBesideRow.domain false) (Rows.hashBesideSpec.post enc Try.prog Try.f9 false true false false) := by
  refine returnsInHanded_of_change_sized (C := Try.checked) own started (by kernel_rfl) Try.func9
    (ChangeSpec.witness6 (enc := enc) (C := Try.checked) false ⟨#[], #[.slice none 0 0], []⟩ 8 (by kernel_rfl) (by kernel_rfl) (by kernel_rfl) (by kernel_rfl)) ?_
  intro W base args ds gs before hval0 hW hcnd hsz0 _
  have hsz : (DataW.weightsEach Try.prog (Try.f9.params.toList ++ Rows.hashBesideSpec.plain.varTypes Try.prog) (ds ++ gs)).all (· ≤ reachBytes) = true := hsz0
  have hval : ∀ (j : Nat) t v, Try.f9.params[j]? = some t → args[j]? = some v → Value.okWide Try.prog W .any base t v := hval0
  have hW' := hW
  obtain ⟨p, q, hA0, hV, rfl, hfz, hnd⟩ := hW
  have hA : DataW.TrodAll enc Try.prog W 0 (fun _ => true) true Try.f9.params.toList args.toList ds p := hA0
  rw [Try.params9] at hA hval hsz
  obtain ⟨v0, vs0, d0, ds0, p0, q0, hargs, rfl, rfl, h0, r0⟩ := trodAll_cons hA
  obtain ⟨rfl, rfl, rfl⟩ := trodAll_nil r0
  obtain rfl : args = #[v0] := by cases args; simp_all
  obtain ⟨rfl, rfl⟩ := trodVars_none hV
  obtain ⟨A0, len0, c0, rfl⟩ := okWide_slice Try.underlying36 (hval 0 36 v0 rfl rfl)
  have k0 := h0
  have lt0 : ∀ x ∈ p0, x.block < W.heap.size := by obtain ⟨m, hm⟩ := k0; exact DataW.trod_lt m _ _ _ hm
  obtain ⟨l0, hr0, hl0, hlc0, hcm0, hw0⟩ := Go.Proofs.YtpnjbogpooejhaaXr.open_row (Go.Proofs.YtpnjbogpooejhaaW.PrintWords.Kd.slice 5 (Go.Proofs.YtpnjbogpooejhaaW.PrintWords.Kd.int .u8)) (fun a => ∀ x ∈ a, 0 ≤ x ∧ x < 256) el32 Try.underlying36 (by kernel_rfl) k0
  have y0 : len0 * 24 ≤ 140737488351232 := Go.Proofs.YtpnjbogpooejhaaXr.sized_row hsz (j := 0) (t := 36) rfl rfl Try.underlying36 (by kernel_rfl) k0
  subst hl0
  clear hA0 hval0 hsz0 hsz
  refine (Go.Proofs.Ytpnjbogpooejhaa.H.hashBeside_law A0 c0 l0 W hr0 hlc0 (Nat.le_trans hlc0 (Nat.le_trans hcm0 (by decide))) hw0).mono fun e W' ⟨he, bel⟩ => ?_
  subst he
  exact ⟨_, rfl, _, _, _, [], _, [], hW', trodAll_mk1 (shut_bool Try.underlying4 _), (trodAll_cons_mk (Below.trod laidOut (by kernel_rfl) (of_decide_eq_true (by kernel_rfl)) k0 bel lt0) trodAll_mk0), rfl, bel.frame _, fun h => by cases h⟩
theorem over : Rows.hashBesideRow.holds Try.pinned (OpenSpec.ofChange Rows.hashBesideSpec) :=
  OpenClaim.holds_of_wide 9 Try.f9 rfl rfl rfl rfl rfl rfl rfl ⟨rfl, rfl, rfl, rfl, rfl⟩ rfl rfl rfl rfl rfl (by kernel_rfl) Try.func9 (by kernel_rfl)
    (of_decide_eq_true (by kernel_rfl)) (by unfold Func.isWrapper; first | (rw [if_pos (by decide +kernel)]; kernel_rfl) | (rw [if_neg (by decide +kernel)]; exact ⟨rfl, rfl⟩))
    (fun os started H enc _ => lifted os started H enc)
theorem proved : Rows.HashBesideSaid := over
#print axioms proved
end Go.Proofs.Ytpnjbogpooejhaa.hashBeside
namespace Go.Proofs.Ytpnjbogpooejhaa
/-- The row, under a short name, for the claim. -/
theorem hashBeside_holds : Rows.HashBesideSaid := hashBeside.proved
end Go.Proofs.Ytpnjbogpooejhaa
