-- Printed by xprint.py (a program of this work, over the kit's print.py). Lean checks it.
import Derived.Test.YtobleaodacnpiaaRows
import Derived.Test.YtobleaodacnpiaaXEfretconlaw14ExtentMoves
import Derived.Test.YtobleaodacnpiaaPureExtentMoves
import Derived.WalkKit
import Derived.ProofKit
import Derived.OpenShut
import Derived.ShutString
import Derived.ChangeOld
import Derived.Below
import Derived.SizedLaws
import Derived.Test.YtobleaodacnpiaaWSized
import Derived.Test.YtobleaodacnpiaaXr
namespace Go.Proofs.Ytobleaodacnpiaa.extentMoves
open Go.ChangeShapes Go.WideShapes Go.ChangeAt Go.RowKit
open Go.ChangeMaps (open_string shut_string)
set_option linter.unusedVariables false
theorem own : ownKnob Try.prog.godebug = none := by kernel_rfl
theorem laidOut : laidOutB Try.prog = true := by kernel_rfl
def IsRow (k : IntKind) (w : World) (a : Option Addr) (len cap : Nat) (zs : List Int) : Prop :=
  (a = none ∧ len = 0 ∧ cap = 0 ∧ zs = []) ∨
  ∃ x, a = some x ∧ len ≤ cap ∧ cap ≤ maxLen ∧ zs.length = cap ∧ (∀ i, i < zs.length → w.cell? (x.add i) = some (.int k (zs.getD i 0))) ∧ ∀ n ∈ zs, (Lit.int k n).wf = true
theorem el42 {H : Type} {enc : TypeId × Value → H} {W : World} {base : Nat} {spare : Nat → Bool} {held : Bool} (n : Nat) (cs : List Value) (y : DataW H × List MemPlace)
    (h : DataW.trod enc Try.prog W base spare held n 42 cs = some y) : ∃ a : XE.S42, XE.k42.K W a cs ∧ ((Lit.int .i64 a.f0).wf = true ∧ (Lit.int .i64 a.f1).wf = true) := by
  obtain ⟨hl, hf⟩ := Go.Proofs.YtobleaodacnpiaaXr.fields_one Try.underlying42 h
  rw [show Try.prog.cellsOf 42 = 2 by kernel_rfl] at hl
  obtain ⟨m0, z0, h0⟩ := hf 0 _ rfl
  obtain ⟨m1, z1, h1⟩ := hf 1 _ rfl
  match cs, hl with
  | [c0, c1], _ =>
    obtain ⟨a0, e0, w0⟩ := Go.Proofs.YtobleaodacnpiaaXr.el_int Try.underlying3 h0
    obtain ⟨a1, e1, w1⟩ := Go.Proofs.YtobleaodacnpiaaXr.el_int Try.underlying3 h1
    simp [show Try.prog.cellsOf 3 = 1 by kernel_rfl] at e0 e1
    subst e0
    subst e1
    exact ⟨⟨a0, a1⟩, XE.k42_mk W ⟨a0, a1⟩, w0, w1⟩
set_option maxRecDepth 100000 in
theorem lifted (os : Os) (started : os.Started) (H : Type) (enc : TypeId × Value → H) :
    ReturnsInHanded {} Try.checked os 3 .any (Rows.extentMovesSpec.pre6 enc Try.prog Try.f3 Rows.extentMovesRow.domain false) (Rows.extentMovesSpec.post enc Try.prog Try.f3 false true false false) := by
  refine returnsInHanded_of_change_sized (C := Try.checked) own started (by kernel_rfl) Try.func3
    (ChangeSpec.witness6 (enc := enc) (C := Try.checked) false ⟨#[], #[.slice none 0 0, .int .i64 0, .int .i64 0], []⟩ 8 (by kernel_rfl) (by kernel_rfl) (by kernel_rfl) (by kernel_rfl)) ?_
  intro W base args ds gs before hval0 hW hcnd hsz0 _
  have hsz : (DataW.weightsEach Try.prog (Try.f3.params.toList ++ Rows.extentMovesSpec.plain.varTypes Try.prog) (ds ++ gs)).all (· ≤ reachBytes) = true := hsz0
  have hval : ∀ (j : Nat) t v, Try.f3.params[j]? = some t → args[j]? = some v → Value.okWide Try.prog W .any base t v := hval0
  have hW' := hW
  obtain ⟨p, q, hA0, hV, rfl, hfz, hnd⟩ := hW
  have hA : DataW.TrodAll enc Try.prog W 0 (fun _ => true) true Try.f3.params.toList args.toList ds p := hA0
  rw [Try.params3] at hA hval hsz
  obtain ⟨v0, vs0, d0, ds0, p0, q0, hargs, rfl, rfl, h0, r0⟩ := trodAll_cons hA
  obtain ⟨v1, vs1, d1, ds1, p1, q1, rfl, rfl, rfl, h1, r1⟩ := trodAll_cons r0
  obtain ⟨v2, vs2, d2, ds2, p2, q2, rfl, rfl, rfl, h2, r2⟩ := trodAll_cons r1
  obtain ⟨rfl, rfl, rfl⟩ := trodAll_nil r2
  obtain rfl : args = #[v0, v1, v2] := by cases args; simp_all
  obtain ⟨rfl, rfl⟩ := trodVars_none hV
  obtain ⟨a0, len0, cap0, rfl⟩ := okWide_slice Try.underlying22 (hval 0 22 v0 rfl rfl)
  have k0 := h0
  have lt0 : ∀ x ∈ p0, x.block < W.heap.size := by obtain ⟨m, hm⟩ := k0; exact DataW.trod_lt m _ _ _ hm
  obtain ⟨l0, hr0, hl0, hlc0, hcm0, hw0⟩ := Go.Proofs.YtobleaodacnpiaaXr.open_row XE.k42 (fun x => (Lit.int .i64 x.f0).wf = true ∧ (Lit.int .i64 x.f1).wf = true) el42 Try.underlying22 (by kernel_rfl) k0
  have y0 : len0 * 16 ≤ 140737488351232 := Go.Proofs.YtobleaodacnpiaaXr.sized_row hsz (j := 0) (t := 22) rfl rfl Try.underlying22 (by kernel_rfl) k0
  subst hl0
  obtain ⟨a1, rfl, rfl, rfl, w1⟩ := open_int Try.underlying3 (hval 1 3 v1 rfl rfl) h1
  obtain ⟨a2, rfl, rfl, rfl, w2⟩ := open_int Try.underlying3 (hval 2 3 v2 rfl rfl) h2
  clear hA0 hval0 hsz0 hsz
  refine (XE.retconlaw14_ExtentMoves.walk Pure.ExtentMoves a0 cap0 l0 a1 a2 W hr0 hlc0 (Nat.le_trans hlc0 hcm0) y0 hw0 w1 w2).mono fun e W' ⟨he, bel⟩ => ?_
  subst he
  exact ⟨_, rfl, _, _, _, [], _, [], hW', trodAll_mk1 (shut_bool Try.underlying4 _), (trodAll_cons_mk (Below.trod laidOut (by kernel_rfl) (of_decide_eq_true (by kernel_rfl)) k0 bel lt0) (trodAll_cons_mk (shut_int Try.underlying3 w1) (trodAll_cons_mk (shut_int Try.underlying3 w2) trodAll_mk0))), rfl, bel.frame _, fun h => by cases h⟩
theorem over : Rows.extentMovesRow.holds Try.pinned (OpenSpec.ofChange Rows.extentMovesSpec) :=
  OpenClaim.holds_of_wide 3 Try.f3 rfl rfl rfl rfl rfl rfl rfl ⟨rfl, rfl, rfl, rfl, rfl⟩ rfl rfl rfl rfl rfl (by kernel_rfl) Try.func3 (by kernel_rfl)
    (of_decide_eq_true (by kernel_rfl)) (by unfold Func.isWrapper; first | (rw [if_pos (by decide +kernel)]; kernel_rfl) | (rw [if_neg (by decide +kernel)]; exact ⟨rfl, rfl⟩))
    (fun os started H enc _ => lifted os started H enc)
theorem proved : Rows.ExtentMovesSaid := over
#print axioms proved
end Go.Proofs.Ytobleaodacnpiaa.extentMoves
namespace Go.Proofs.Ytobleaodacnpiaa
/-- The row, under a short name, for the claim. -/
theorem extentMoves_holds : Rows.ExtentMovesSaid := extentMoves.proved
end Go.Proofs.Ytobleaodacnpiaa
