/- What a disk answers to any calls is told as the document says; for every input. -/
import Derived.Test.YtejfocliopbocaaRows
import Derived.Test.YtejfocliopbocaaQ10
import Derived.WalkKit
import Derived.ProofKit
import Derived.OpenShut
import Derived.ShutString
import Derived.ChangeOld
import Derived.Below
import Derived.SizedLaws
import Derived.Test.YtejfocliopbocaaQ00
import Derived.Test.YtejfocliopbocaaQ01
namespace Go.Proofs.Ytejfocliopbocaa.diskScript
open Go.ChangeShapes Go.WideShapes Go.ChangeAt Go.RowKit
open Go.ChangeMaps (open_string shut_string)
set_option linter.unusedVariables false
theorem own : ownKnob Try.prog.godebug = none := by kernel_rfl
theorem laidOut : laidOutB Try.prog = true := by kernel_rfl
theorem el5 {H : Type} {enc : TypeId × Value → H} {W : World} {base : Nat} {spare : Nat → Bool} {held : Bool} (n : Nat) (cs : List Value) (y : DataW H × List MemPlace)
    (h : DataW.trod enc Try.prog W base spare held n 5 cs = some y) : ∃ a, (Go.Proofs.YtejfocliopbocaaW.PrintWords.Kd.int .u8).K W a cs ∧ 0 ≤ a ∧ a < 256 := by
  obtain ⟨a, rfl, hw⟩ := Go.Proofs.YtejfocliopbocaaXr.el_int Try.underlying5 h
  refine ⟨a, rfl, ?_⟩
  simp [Lit.wf, IntKind.min, IntKind.max, IntKind.signed, IntKind.bits] at hw
  omega
theorem el4 {H : Type} {enc : TypeId × Value → H} {W : World} {base : Nat} {spare : Nat → Bool} {held : Bool} (n : Nat) (cs : List Value) (y : DataW H × List MemPlace)
    (h : DataW.trod enc Try.prog W base spare held n 4 cs = some y) : ∃ a, Go.Proofs.YtejfocliopbocaaW.PrintWords.Kd.bool.K W a cs ∧ True := by
  obtain ⟨a, rfl⟩ := Go.Proofs.YtejfocliopbocaaXr.el_bool Try.underlying4 h
  exact ⟨a, rfl, trivial⟩
theorem el43 {H : Type} {enc : TypeId × Value → H} {W : World} {base : Nat} {spare : Nat → Bool} {held : Bool} (n : Nat) (cs : List Value) (y : DataW H × List MemPlace)
    (h : DataW.trod enc Try.prog W base spare held n 43 cs = some y) : ∃ a : XD.S43, XD.k43.K W a cs ∧ Su.wfA a := by
  obtain ⟨hl, hf⟩ := Go.Proofs.YtejfocliopbocaaXr.fields_one Try.underlying43 h
  rw [show Try.prog.cellsOf 43 = 4 by kernel_rfl] at hl
  obtain ⟨m0, z0, h0⟩ := hf 0 _ rfl
  obtain ⟨m1, z1, h1⟩ := hf 1 _ rfl
  obtain ⟨m2, z2, h2⟩ := hf 2 _ rfl
  obtain ⟨m3, z3, h3⟩ := hf 3 _ rfl
  match cs, hl with
  | [c0, c1, c2, c3], _ =>
    obtain ⟨a0, e0, _⟩ := Go.Proofs.YtejfocliopbocaaXr.el_int Try.underlying3 h0
    obtain ⟨a1, e1, w1⟩ := Go.Proofs.YtejfocliopbocaaXr.el_int Try.underlying3 h1
    obtain ⟨a2, e2, w2⟩ := Go.Proofs.YtejfocliopbocaaXr.el_slice (Go.Proofs.YtejfocliopbocaaW.PrintWords.Kd.int .u8) (fun a => 0 ≤ a ∧ a < 256) el5 Try.underlying27 (by kernel_rfl) h2
    obtain ⟨a3, e3, _⟩ := Go.Proofs.YtejfocliopbocaaXr.el_slice Go.Proofs.YtejfocliopbocaaW.PrintWords.Kd.bool (fun _ => True) el4 Try.underlying33 (by kernel_rfl) h3
    simp [show Try.prog.cellsOf 3 = 1 by kernel_rfl] at e0 e1
    obtain ⟨A2, q2, e2, l2, g2⟩ := e2
    obtain ⟨A3, q3, e3, l3, g3⟩ := e3
    simp [show Try.prog.cellsOf 27 = 1 by kernel_rfl, show Try.prog.cellsOf 33 = 1 by kernel_rfl] at e2 e3
    subst e0
    subst e1
    subst e2
    subst e3
    exact ⟨⟨a0, a1, a2, a3⟩, XD.k43_mk W ⟨a0, a1, a2, a3⟩ l2 g2 l3 g3, ⟨by simp [Lit.wf, IntKind.min, IntKind.max, IntKind.signed, IntKind.bits] at w1; show a1 ≤ 9223372036854775807; omega, w2⟩⟩
set_option maxRecDepth 100000 in
theorem lifted (os : Os) (started : os.Started) (H : Type) (enc : TypeId × Value → H) :
    ReturnsInHanded {} Try.checked os 6 .any (Rows.diskScriptSpec.pre6 enc Try.prog Try.f6 Rows.diskScriptRow.domain false) (Rows.diskScriptSpec.post enc Try.prog Try.f6 false true false false) := by
  refine returnsInHanded_of_change_sized (C := Try.checked) own started (by kernel_rfl) Try.func6
    (ChangeSpec.witness6 (enc := enc) (C := Try.checked) false ⟨#[], #[.int .i64 0, .slice none 0 0], []⟩ 8 (by kernel_rfl) (by kernel_rfl) (by kernel_rfl) (by kernel_rfl)) ?_
  intro W base args ds gs before hval0 hW hcnd hsz0 _
  have hsz : (DataW.weightsEach Try.prog (Try.f6.params.toList ++ Rows.diskScriptSpec.plain.varTypes Try.prog) (ds ++ gs)).all (· ≤ reachBytes) = true := hsz0
  have hval : ∀ (j : Nat) t v, Try.f6.params[j]? = some t → args[j]? = some v → Value.okWide Try.prog W .any base t v := hval0
  have hW' := hW
  obtain ⟨p, q, hA0, hV, rfl, hfz, hnd⟩ := hW
  have hA : DataW.TrodAll enc Try.prog W 0 (fun _ => true) true Try.f6.params.toList args.toList ds p := hA0
  rw [Try.params6] at hA hval hsz
  obtain ⟨v0, vs0, d0, ds0, p0, q0, hargs, rfl, rfl, h0, r0⟩ := trodAll_cons hA
  obtain ⟨v1, vs1, d1, ds1, p1, q1, rfl, rfl, rfl, h1, r1⟩ := trodAll_cons r0
  obtain ⟨rfl, rfl, rfl⟩ := trodAll_nil r1
  obtain rfl : args = #[v0, v1] := by cases args; simp_all
  obtain ⟨rfl, rfl⟩ := trodVars_none hV
  obtain ⟨a0, rfl, rfl, rfl, w0⟩ := open_int Try.underlying3 (hval 0 3 v0 rfl rfl) h0
  obtain ⟨A1, len1, c1, rfl⟩ := okWide_slice Try.underlying36 (hval 1 36 v1 rfl rfl)
  have k1 := h1
  have lt1 : ∀ x ∈ p1, x.block < W.heap.size := by obtain ⟨m, hm⟩ := k1; exact DataW.trod_lt m _ _ _ hm
  obtain ⟨l1, hr1, hl1, hlc1, hcm1, hw1⟩ := Go.Proofs.YtejfocliopbocaaXr.open_row XD.k43 (fun a => Su.wfA a) el43 Try.underlying36 (by kernel_rfl) k1
  have y1 : len1 * 64 ≤ 140737488351232 := Go.Proofs.YtejfocliopbocaaXr.sized_row hsz (j := 1) (t := 36) rfl rfl Try.underlying36 (by kernel_rfl) k1
  subst hl1
  clear hA0 hval0 hsz0 hsz
  refine (Su.diskScript_law a0 A1 c1 l1 W hr1 hlc1 hw1).mono fun e W' ⟨he, bel⟩ => ?_
  subst he
  exact ⟨_, rfl, _, _, _, [], _, [], hW', trodAll_mk1 (shut_bool Try.underlying4 _), (trodAll_cons_mk (shut_int Try.underlying3 w0) (trodAll_cons_mk (Below.trod laidOut (by kernel_rfl) (of_decide_eq_true (by kernel_rfl)) k1 bel lt1) trodAll_mk0)), rfl, bel.frame _, fun h => by cases h⟩
theorem over : Rows.diskScriptRow.holds Try.pinned (OpenSpec.ofChange Rows.diskScriptSpec) :=
  OpenClaim.holds_of_wide 6 Try.f6 rfl rfl rfl rfl rfl rfl rfl ⟨rfl, rfl, rfl, rfl, rfl⟩ rfl rfl rfl rfl rfl (by kernel_rfl) Try.func6 (by kernel_rfl)
    (of_decide_eq_true (by kernel_rfl)) (by unfold Func.isWrapper; first | (rw [if_pos (by decide +kernel)]; kernel_rfl) | (rw [if_neg (by decide +kernel)]; exact ⟨rfl, rfl⟩))
    (fun os started H enc _ => lifted os started H enc)
theorem proved : Rows.DiskScriptSaid := over
#print axioms proved
end Go.Proofs.Ytejfocliopbocaa.diskScript
namespace Go.Proofs.Ytejfocliopbocaa
/-- The row, under a short name, for the claim. -/
theorem diskScript_holds : Rows.DiskScriptSaid := diskScript.proved
end Go.Proofs.Ytejfocliopbocaa
