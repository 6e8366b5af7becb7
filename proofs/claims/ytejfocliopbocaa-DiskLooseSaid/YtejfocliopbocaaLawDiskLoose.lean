/- Behind a crash each sector is as it was flushed, or one of its loose writes, but for one at most, which is torn; for every input. -/
import Derived.Test.YtejfocliopbocaaRows
import Derived.Test.YtejfocliopbocaaD19
import Derived.WalkKit
import Derived.ProofKit
import Derived.OpenShut
import Derived.ShutString
import Derived.ChangeOld
import Derived.Below
import Derived.SizedLaws
import Derived.Test.YtejfocliopbocaaWSized
import Derived.Test.YtejfocliopbocaaXr
namespace Go.Proofs.Ytejfocliopbocaa.diskLoose
open Go.ChangeShapes Go.WideShapes Go.ChangeAt Go.RowKit
open Go.ChangeMaps (open_string shut_string)
set_option linter.unusedVariables false
theorem own : ownKnob Try.prog.godebug = none := by kernel_rfl
theorem laidOut : laidOutB Try.prog = true := by kernel_rfl
theorem el5 {H : Type} {enc : TypeId × Value → H} {W : World} {base : Nat} {spare : Nat → Bool} {held : Bool} (n : Nat) (cs : List Value) (y : DataW H × List MemPlace)
    (h : DataW.trod enc Try.prog W base spare held n 5 cs = some y) : ∃ a, (Go.Proofs.YtejfocliopbocaaW.PrintWords.Kd.int .u8).K W a cs ∧ 0 ≤ a ∧ a < 256 := by
  obtain ⟨a, rfl, hw⟩ := Go.Proofs.YtejfocliopbocaaXr.el_int Try.underlying5 h
  refine ⟨a, rfl, ?_⟩
  simp [Lit.wf, IntKind.min, IntKind.max, IntKind.signed, IntKind.bits] at hw
  omega
theorem el4 {H : Type} {enc : TypeId × Value → H} {W : World} {base : Nat} {spare : Nat → Bool} {held : Bool} (n : Nat) (cs : List Value) (y : DataW H × List MemPlace)
    (h : DataW.trod enc Try.prog W base spare held n 4 cs = some y) : ∃ a, Go.Proofs.YtejfocliopbocaaW.PrintWords.Kd.bool.K W a cs ∧ True := by
  obtain ⟨a, rfl⟩ := Go.Proofs.YtejfocliopbocaaXr.el_bool Try.underlying4 h
  exact ⟨a, rfl, trivial⟩
set_option maxRecDepth 100000 in
theorem lifted (os : Os) (started : os.Started) (H : Type) (enc : TypeId × Value → H) :
    ReturnsInHanded {} Try.checked os 5 .any (Rows.diskLooseSpec.pre6 enc Try.prog Try.f5 Rows.diskLooseRow.domain false) (Rows.diskLooseSpec.post enc Try.prog Try.f5 false true false false) := by
  refine returnsInHanded_of_change_sized (C := Try.checked) own started (by kernel_rfl) Try.func5
    (ChangeSpec.witness6 (enc := enc) (C := Try.checked) false ⟨#[], #[.slice none 0 0, .slice none 0 0, .slice none 0 0, .int .i64 0], []⟩ 8 (by kernel_rfl) (by kernel_rfl) (by kernel_rfl) (by kernel_rfl)) ?_
  intro W base args ds gs before hval0 hW hcnd hsz0 _
  have hsz : (DataW.weightsEach Try.prog (Try.f5.params.toList ++ Rows.diskLooseSpec.plain.varTypes Try.prog) (ds ++ gs)).all (· ≤ reachBytes) = true := hsz0
  have hval : ∀ (j : Nat) t v, Try.f5.params[j]? = some t → args[j]? = some v → Value.okWide Try.prog W .any base t v := hval0
  have hW' := hW
  obtain ⟨p, q, hA0, hV, rfl, hfz, hnd⟩ := hW
  have hA : DataW.TrodAll enc Try.prog W 0 (fun _ => true) true Try.f5.params.toList args.toList ds p := hA0
  rw [Try.params5] at hA hval hsz
  obtain ⟨v0, vs0, d0, ds0, p0, q0, hargs, rfl, rfl, h0, r0⟩ := trodAll_cons hA
  obtain ⟨v1, vs1, d1, ds1, p1, q1, rfl, rfl, rfl, h1, r1⟩ := trodAll_cons r0
  obtain ⟨v2, vs2, d2, ds2, p2, q2, rfl, rfl, rfl, h2, r2⟩ := trodAll_cons r1
  obtain ⟨v3, vs3, d3, ds3, p3, q3, rfl, rfl, rfl, h3, r3⟩ := trodAll_cons r2
  obtain ⟨rfl, rfl, rfl⟩ := trodAll_nil r3
  obtain rfl : args = #[v0, v1, v2, v3] := by cases args; simp_all
  obtain ⟨rfl, rfl⟩ := trodVars_none hV
  obtain ⟨A0, len0, c0, rfl⟩ := okWide_slice Try.underlying27 (hval 0 27 v0 rfl rfl)
  have k0 := h0
  have lt0 : ∀ x ∈ p0, x.block < W.heap.size := by obtain ⟨m, hm⟩ := k0; exact DataW.trod_lt m _ _ _ hm
  obtain ⟨l0, hr0, hl0, hlc0, hcm0, hw0⟩ := Go.Proofs.YtejfocliopbocaaXr.open_row (Go.Proofs.YtejfocliopbocaaW.PrintWords.Kd.int .u8) (fun a => 0 ≤ a ∧ a < 256) el5 Try.underlying27 (by kernel_rfl) k0
  have y0 : len0 * 1 ≤ 140737488351232 := Go.Proofs.YtejfocliopbocaaXr.sized_row hsz (j := 0) (t := 27) rfl rfl Try.underlying27 (by kernel_rfl) k0
  subst hl0
  obtain ⟨A1, len1, c1, rfl⟩ := okWide_slice Try.underlying27 (hval 1 27 v1 rfl rfl)
  have k1 := h1
  have lt1 : ∀ x ∈ p1, x.block < W.heap.size := by obtain ⟨m, hm⟩ := k1; exact DataW.trod_lt m _ _ _ hm
  obtain ⟨l1, hr1, hl1, hlc1, hcm1, hw1⟩ := Go.Proofs.YtejfocliopbocaaXr.open_row (Go.Proofs.YtejfocliopbocaaW.PrintWords.Kd.int .u8) (fun a => 0 ≤ a ∧ a < 256) el5 Try.underlying27 (by kernel_rfl) k1
  have y1 : len1 * 1 ≤ 140737488351232 := Go.Proofs.YtejfocliopbocaaXr.sized_row hsz (j := 1) (t := 27) rfl rfl Try.underlying27 (by kernel_rfl) k1
  subst hl1
  obtain ⟨A2, len2, c2, rfl⟩ := okWide_slice Try.underlying33 (hval 2 33 v2 rfl rfl)
  have k2 := h2
  have lt2 : ∀ x ∈ p2, x.block < W.heap.size := by obtain ⟨m, hm⟩ := k2; exact DataW.trod_lt m _ _ _ hm
  obtain ⟨l2, hr2, hl2, hlc2, hcm2, hw2⟩ := Go.Proofs.YtejfocliopbocaaXr.open_row Go.Proofs.YtejfocliopbocaaW.PrintWords.Kd.bool (fun a => True) el4 Try.underlying33 (by kernel_rfl) k2
  have y2 : len2 * 1 ≤ 140737488351232 := Go.Proofs.YtejfocliopbocaaXr.sized_row hsz (j := 2) (t := 33) rfl rfl Try.underlying33 (by kernel_rfl) k2
  subst hl2
  obtain ⟨a3, rfl, rfl, rfl, w3⟩ := open_int Try.underlying3 (hval 3 3 v3 rfl rfl) h3
  clear hA0 hval0 hsz0 hsz
  refine (Go.Proofs.Ytejfocliopbocaa.D.diskLoose_law A0 c0 l0 W hr0 (Nat.le_trans hlc0 hcm0) hw0 A1 c1 l1 hr1 hlc1 (Nat.le_trans hlc1 hcm1) hw1 A2 c2 l2 hr2 (Nat.le_trans hlc2 hcm2) a3).mono fun e W' ⟨he, bel⟩ => ?_
  subst he
  exact ⟨_, rfl, _, _, _, [], _, [], hW', trodAll_mk1 (shut_bool Try.underlying4 _), (trodAll_cons_mk (Below.trod laidOut (by kernel_rfl) (of_decide_eq_true (by kernel_rfl)) k0 bel lt0) (trodAll_cons_mk (Below.trod laidOut (by kernel_rfl) (of_decide_eq_true (by kernel_rfl)) k1 bel lt1) (trodAll_cons_mk (Below.trod laidOut (by kernel_rfl) (of_decide_eq_true (by kernel_rfl)) k2 bel lt2) (trodAll_cons_mk (shut_int Try.underlying3 w3) trodAll_mk0)))), rfl, bel.frame _, fun h => by cases h⟩
theorem over : Rows.diskLooseRow.holds Try.pinned (OpenSpec.ofChange Rows.diskLooseSpec) :=
  OpenClaim.holds_of_wide 5 Try.f5 rfl rfl rfl rfl rfl rfl rfl ⟨rfl, rfl, rfl, rfl, rfl⟩ rfl rfl rfl rfl rfl (by kernel_rfl) Try.func5 (by kernel_rfl)
    (of_decide_eq_true (by kernel_rfl)) (by unfold Func.isWrapper; first | (rw [if_pos (by decide +kernel)]; kernel_rfl) | (rw [if_neg (by decide +kernel)]; exact ⟨rfl, rfl⟩))
    (fun os started H enc _ => lifted os started H enc)
theorem proved : Rows.DiskLooseSaid := over
#print axioms proved
end Go.Proofs.Ytejfocliopbocaa.diskLoose
namespace Go.Proofs.Ytejfocliopbocaa
/-- The row, under a short name, for the claim. -/
theorem diskLoose_holds : Rows.DiskLooseSaid := diskLoose.proved
end Go.Proofs.Ytejfocliopbocaa
