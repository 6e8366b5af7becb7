/- What was flushed, and not written since, is read, whatever the crash is; for every input. -/
import Derived.Test.YtejfocliopbocaaRows
import Derived.Test.YtejfocliopbocaaD17
import Derived.WalkKit
import Derived.ProofKit
import Derived.OpenShut
import Derived.ShutString
import Derived.ChangeOld
import Derived.Below
import Derived.SizedLaws
import Derived.Test.YtejfocliopbocaaWSized
import Derived.Test.YtejfocliopbocaaXr
namespace Go.Proofs.Ytejfocliopbocaa.diskFirm
open Go.ChangeShapes Go.WideShapes Go.ChangeAt Go.RowKit
open Go.ChangeMaps (open_string shut_string)
set_option linter.unusedVariables false
theorem own : ownKnob Try.prog.godebug = none := by kernel_rfl
theorem laidOut : laidOutB Try.prog = true := by kernel_rfl
theorem el5 {H : Type} {enc : TypeId × Value → H} {W : World} {base : Nat} {spare : Nat → Bool} {held : Bool} (n : Nat) (cs : List Value) (y : DataW H × List MemPlace)
    (h : DataW.trod enc Try.prog W base spare held n 5 cs = some y) : ∃ a, (Go.Proofs.YtejfocliopbocaaW.PrintWords.Kd.int .u8).K W a cs ∧ 0 ≤ a ∧ a < 256 := by
  obtain ⟨a, rfl, hw⟩ := Go.Proofs.YtejfocliopbocaaXr.el_int Try.underlying5 h
  refine ⟨a, rfl, ?_⟩
  simp [Lit.wf, IntKind.min, IntKind.max, IntKind.signed, IntKind.bits] at hw
  omega
theorem el4 {H : Type} {enc : TypeId × Value → H} {W : World} {base : Nat} {spare : Nat → Bool} {held : Bool} (n : Nat) (cs : List Value) (y : DataW H × List MemPlace)
    (h : DataW.trod enc Try.prog W base spare held n 4 cs = some y) : ∃ a, Go.Proofs.YtejfocliopbocaaW.PrintWords.Kd.bool.K W a cs ∧ True := by
  obtain ⟨a, rfl⟩ := Go.Proofs.YtejfocliopbocaaXr.el_bool Try.underlying4 h
  exact ⟨a, rfl, trivial⟩
theorem el43 {H : Type} {enc : TypeId × Value → H} {W : World} {base : Nat} {spare : Nat → Bool} {held : Bool} (n : Nat) (cs : List Value) (y : DataW H × List MemPlace)
    (h : DataW.trod enc Try.prog W base spare held n 43 cs = some y) : ∃ a : XD.S43, XD.k43.K W a cs ∧ True := by
  obtain ⟨hl, hf⟩ := Go.Proofs.YtejfocliopbocaaXr.fields_one Try.underlying43 h
  rw [show Try.prog.cellsOf 43 = 4 by kernel_rfl] at hl
  obtain ⟨m0, z0, h0⟩ := hf 0 _ rfl
  obtain ⟨m1, z1, h1⟩ := hf 1 _ rfl
  obtain ⟨m2, z2, h2⟩ := hf 2 _ rfl
  obtain ⟨m3, z3, h3⟩ := hf 3 _ rfl
  match cs, hl with
  | [c0, c1, c2, c3], _ =>
    obtain ⟨a0, e0, _⟩ := Go.Proofs.YtejfocliopbocaaXr.el_int Try.underlying3 h0
    obtain ⟨a1, e1, _⟩ := Go.Proofs.YtejfocliopbocaaXr.el_int Try.underlying3 h1
    obtain ⟨a2, e2, _⟩ := Go.Proofs.YtejfocliopbocaaXr.el_slice (Go.Proofs.YtejfocliopbocaaW.PrintWords.Kd.int .u8) (fun _ => True) (fun n cs y h => by obtain ⟨a, h1, _⟩ := el5 n cs y h; exact ⟨a, h1, trivial⟩) Try.underlying27 (by kernel_rfl) h2
    obtain ⟨a3, e3, _⟩ := Go.Proofs.YtejfocliopbocaaXr.el_slice Go.Proofs.YtejfocliopbocaaW.PrintWords.Kd.bool (fun _ => True) el4 Try.underlying33 (by kernel_rfl) h3
    simp [show Try.prog.cellsOf 3 = 1 by kernel_rfl] at e0 e1
    obtain ⟨A2, q2, e2, l2, g2⟩ := e2
    obtain ⟨A3, q3, e3, l3, g3⟩ := e3
    simp [show Try.prog.cellsOf 27 = 1 by kernel_rfl, show Try.prog.cellsOf 33 = 1 by kernel_rfl] at e2 e3
    subst e0
    subst e1
    subst e2
    subst e3
    exact ⟨⟨a0, a1, a2, a3⟩, XD.k43_mk W ⟨a0, a1, a2, a3⟩ l2 g2 l3 g3, trivial⟩
set_option maxRecDepth 100000 in
theorem lifted (os : Os) (started : os.Started) (H : Type) (enc : TypeId × Value → H) :
    ReturnsInHanded {} Try.checked os 4 .any (Rows.diskFirmSpec.pre6 enc Try.prog Try.f4 Rows.diskFirmRow.domain false) (Rows.diskFirmSpec.post enc Try.prog Try.f4 false true false false) := by
  refine returnsInHanded_of_change_sized (C := Try.checked) own started (by kernel_rfl) Try.func4
    (ChangeSpec.witness6 (enc := enc) (C := Try.checked) false ⟨#[], #[.slice none 0 0, .int .i64 0, .slice none 0 0, .slice none 0 0, .int .i64 0], []⟩ 8 (by kernel_rfl) (by kernel_rfl) (by kernel_rfl) (by kernel_rfl)) ?_
  intro W base args ds gs before hval0 hW hcnd hsz0 _
  have hsz : (DataW.weightsEach Try.prog (Try.f4.params.toList ++ Rows.diskFirmSpec.plain.varTypes Try.prog) (ds ++ gs)).all (· ≤ reachBytes) = true := hsz0
  have hval : ∀ (j : Nat) t v, Try.f4.params[j]? = some t → args[j]? = some v → Value.okWide Try.prog W .any base t v := hval0
  have hW' := hW
  obtain ⟨p, q, hA0, hV, rfl, hfz, hnd⟩ := hW
  have hA : DataW.TrodAll enc Try.prog W 0 (fun _ => true) true Try.f4.params.toList args.toList ds p := hA0
  rw [Try.params4] at hA hval hsz
  obtain ⟨v0, vs0, d0, ds0, p0, q0, hargs, rfl, rfl, h0, r0⟩ := trodAll_cons hA
  obtain ⟨v1, vs1, d1, ds1, p1, q1, rfl, rfl, rfl, h1, r1⟩ := trodAll_cons r0
  obtain ⟨v2, vs2, d2, ds2, p2, q2, rfl, rfl, rfl, h2, r2⟩ := trodAll_cons r1
  obtain ⟨v3, vs3, d3, ds3, p3, q3, rfl, rfl, rfl, h3, r3⟩ := trodAll_cons r2
  obtain ⟨v4, vs4, d4, ds4, p4, q4, rfl, rfl, rfl, h4, r4⟩ := trodAll_cons r3
  obtain ⟨rfl, rfl, rfl⟩ := trodAll_nil r4
  obtain rfl : args = #[v0, v1, v2, v3, v4] := by cases args; simp_all
  obtain ⟨rfl, rfl⟩ := trodVars_none hV
  obtain ⟨A0, len0, c0, rfl⟩ := okWide_slice Try.underlying36 (hval 0 36 v0 rfl rfl)
  have k0 := h0
  have lt0 : ∀ x ∈ p0, x.block < W.heap.size := by obtain ⟨m, hm⟩ := k0; exact DataW.trod_lt m _ _ _ hm
  obtain ⟨l0, hr0, hl0, hlc0, hcm0, hw0⟩ := Go.Proofs.YtejfocliopbocaaXr.open_row XD.k43 (fun a => True) el43 Try.underlying36 (by kernel_rfl) k0
  have y0 : len0 * 64 ≤ 140737488351232 := Go.Proofs.YtejfocliopbocaaXr.sized_row hsz (j := 0) (t := 36) rfl rfl Try.underlying36 (by kernel_rfl) k0
  subst hl0
  obtain ⟨a1, rfl, rfl, rfl, w1⟩ := open_int Try.underlying3 (hval 1 3 v1 rfl rfl) h1
  obtain ⟨A2, len2, c2, rfl⟩ := okWide_slice Try.underlying36 (hval 2 36 v2 rfl rfl)
  have k2 := h2
  have lt2 : ∀ x ∈ p2, x.block < W.heap.size := by obtain ⟨m, hm⟩ := k2; exact DataW.trod_lt m _ _ _ hm
  obtain ⟨l2, hr2, hl2, hlc2, hcm2, hw2⟩ := Go.Proofs.YtejfocliopbocaaXr.open_row XD.k43 (fun a => True) el43 Try.underlying36 (by kernel_rfl) k2
  have y2 : len2 * 64 ≤ 140737488351232 := Go.Proofs.YtejfocliopbocaaXr.sized_row hsz (j := 2) (t := 36) rfl rfl Try.underlying36 (by kernel_rfl) k2
  subst hl2
  obtain ⟨A3, len3, c3, rfl⟩ := okWide_slice Try.underlying33 (hval 3 33 v3 rfl rfl)
  have k3 := h3
  have lt3 : ∀ x ∈ p3, x.block < W.heap.size := by obtain ⟨m, hm⟩ := k3; exact DataW.trod_lt m _ _ _ hm
  obtain ⟨l3, hr3, hl3, hlc3, hcm3, hw3⟩ := Go.Proofs.YtejfocliopbocaaXr.open_row Go.Proofs.YtejfocliopbocaaW.PrintWords.Kd.bool (fun a => True) el4 Try.underlying33 (by kernel_rfl) k3
  have y3 : len3 * 1 ≤ 140737488351232 := Go.Proofs.YtejfocliopbocaaXr.sized_row hsz (j := 3) (t := 33) rfl rfl Try.underlying33 (by kernel_rfl) k3
  subst hl3
  obtain ⟨a4, rfl, rfl, rfl, w4⟩ := open_int Try.underlying3 (hval 4 3 v4 rfl rfl) h4
  clear hA0 hval0 hsz0 hsz
  refine (Go.Proofs.Ytejfocliopbocaa.D.diskFirm_law A0 c0 l0 W hr0 hlc0 (Nat.le_trans hlc0 hcm0) a1 A2 c2 l2 hr2 hlc2 (Nat.le_trans hlc2 hcm2) A3 c3 l3 hr3 hlc3 (Nat.le_trans hlc3 hcm3) a4).mono fun e W' ⟨he, bel⟩ => ?_
  subst he
  exact ⟨_, rfl, _, _, _, [], _, [], hW', trodAll_mk1 (shut_bool Try.underlying4 _), (trodAll_cons_mk (Below.trod laidOut (by kernel_rfl) (of_decide_eq_true (by kernel_rfl)) k0 bel lt0) (trodAll_cons_mk (shut_int Try.underlying3 w1) (trodAll_cons_mk (Below.trod laidOut (by kernel_rfl) (of_decide_eq_true (by kernel_rfl)) k2 bel lt2) (trodAll_cons_mk (Below.trod laidOut (by kernel_rfl) (of_decide_eq_true (by kernel_rfl)) k3 bel lt3) (trodAll_cons_mk (shut_int Try.underlying3 w4) trodAll_mk0))))), rfl, bel.frame _, fun h => by cases h⟩
theorem over : Rows.diskFirmRow.holds Try.pinned (OpenSpec.ofChange Rows.diskFirmSpec) :=
  OpenClaim.holds_of_wide 4 Try.f4 rfl rfl rfl rfl rfl rfl rfl ⟨rfl, rfl, rfl, rfl, rfl⟩ rfl rfl rfl rfl rfl (by kernel_rfl) Try.func4 (by kernel_rfl)
    (of_decide_eq_true (by kernel_rfl)) (by unfold Func.isWrapper; first | (rw [if_pos (by decide +kernel)]; kernel_rfl) | (rw [if_neg (by decide +kernel)]; exact ⟨rfl, rfl⟩))
    (fun os started H enc _ => lifted os started H enc)
theorem proved : Rows.DiskFirmSaid := over
#print axioms proved
end Go.Proofs.Ytejfocliopbocaa.diskFirm
namespace Go.Proofs.Ytejfocliopbocaa
/-- The row, under a short name, for the claim. -/
theorem diskFirm_holds : Rows.DiskFirmSaid := diskFirm.proved
end Go.Proofs.Ytejfocliopbocaa
