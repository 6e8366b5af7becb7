/- What an edit leaves, and what is missing then, come to all places; what is missing is put, and then nothing is; for every input. -/
import Derived.Test.YtgippbgcmmjnbaaRows
import Derived.Test.YtgippbgcmmjnbaaCt8
import Derived.WalkKit
import Derived.ProofKit
import Derived.OpenShut
import Derived.ShutString
import Derived.ChangeOld
import Derived.Below
import Derived.SizedLaws
import Derived.Test.YtgippbgcmmjnbaaWSized
import Derived.Test.YtgippbgcmmjnbaaXr
namespace Go.Proofs.Ytgippbgcmmjnbaa.checkAll
open Go.ChangeShapes Go.WideShapes Go.ChangeAt Go.RowKit
open Go.ChangeMaps (open_string shut_string)
set_option linter.unusedVariables false
theorem own : ownKnob Try.prog.godebug = none := by kernel_rfl
theorem laidOut : laidOutB Try.prog = true := by kernel_rfl
theorem el25 {H : Type} {enc : TypeId × Value → H} {W : World} {base : Nat} {spare : Nat → Bool} {held : Bool} (n : Nat) (cs : List Value) (y : DataW H × List MemPlace)
    (h : DataW.trod enc Try.prog W base spare held n 25 cs = some y) : ∃ a : XB.S25, XB.k25.K W a cs := by
  obtain ⟨l, hl, rfl, _⟩ := Go.Proofs.YtgippbgcmmjnbaaXr.el_arr Try.underlying25 Try.underlying5 (by kernel_rfl) (by kernel_rfl) h
  match l, hl with
  | [a0, a1, a2, a3, a4, a5, a6, a7, a8, a9, a10, a11, a12, a13, a14, a15, a16, a17, a18, a19, a20, a21, a22, a23, a24, a25, a26, a27, a28, a29, a30, a31], _ => exact ⟨⟨a0, a1, a2, a3, a4, a5, a6, a7, a8, a9, a10, a11, a12, a13, a14, a15, a16, a17, a18, a19, a20, a21, a22, a23, a24, a25, a26, a27, a28, a29, a30, a31⟩, XB.k25_mk W ⟨a0, a1, a2, a3, a4, a5, a6, a7, a8, a9, a10, a11, a12, a13, a14, a15, a16, a17, a18, a19, a20, a21, a22, a23, a24, a25, a26, a27, a28, a29, a30, a31⟩⟩
theorem el27 {H : Type} {enc : TypeId × Value → H} {W : World} {base : Nat} {spare : Nat → Bool} {held : Bool} (n : Nat) (cs : List Value) (y : DataW H × List MemPlace)
    (h : DataW.trod enc Try.prog W base spare held n 27 cs = some y) : ∃ a : XB.S27, XB.k27.K W a cs ∧ True := by
  obtain ⟨hl, hf⟩ := Go.Proofs.YtgippbgcmmjnbaaXr.fields_one Try.underlying27 h
  rw [show Try.prog.cellsOf 27 = 33 by kernel_rfl] at hl
  obtain ⟨m0, z0, h0⟩ := hf 0 _ rfl
  obtain ⟨m1, z1, h1⟩ := hf 1 _ rfl
  obtain ⟨a0, e0, w0⟩ := Go.Proofs.YtgippbgcmmjnbaaXr.el_int Try.underlying3 h0
  obtain ⟨a1, e1⟩ := el25 _ _ _ h1
  have e := Go.Proofs.YtgippbgcmmjnbaaXr.cut_cells (cs := cs) (n := 32) 1 hl
  replace e0 : List.take (Try.prog.cellsOf 3) (List.drop 0 cs) = [.int .i64 a0] := e0
  replace e1 : XB.k25.K W a1 (List.take (Try.prog.cellsOf 25) (List.drop 1 cs)) := e1
  rw [show Try.prog.cellsOf 3 = 1 by kernel_rfl, List.drop_zero] at e0
  rw [show Try.prog.cellsOf 25 = 32 by kernel_rfl] at e1
  refine ⟨⟨a0, a1⟩, ?_, trivial⟩
  rw [e, e0, XB.k25_open e1]
  exact XB.k27_mk W ⟨a0, a1⟩
set_option maxRecDepth 100000 in
theorem lifted (os : Os) (started : os.Started) (H : Type) (enc : TypeId × Value → H) :
    ReturnsInHanded {} Try.checked os 6 .any (Rows.checkAllSpec.pre6 enc Try.prog Try.f6 Rows.checkAllRow.domain false) (Rows.checkAllSpec.post enc Try.prog Try.f6 false true false false) := by
  refine returnsInHanded_of_change_sized (C := Try.checked) own started (by kernel_rfl) Try.func6
    (ChangeSpec.witness6 (enc := enc) (C := Try.checked) false ⟨#[], #[.slice none 0 0, .int .i64 0, .int .i64 0], []⟩ 8 (by kernel_rfl) (by kernel_rfl) (by kernel_rfl) (by kernel_rfl)) ?_
  intro W base args ds gs before hval0 hW hcnd hsz0 _
  have hsz : (DataW.weightsEach Try.prog (Try.f6.params.toList ++ Rows.checkAllSpec.plain.varTypes Try.prog) (ds ++ gs)).all (· ≤ reachBytes) = true := hsz0
  have hval : ∀ (j : Nat) t v, Try.f6.params[j]? = some t → args[j]? = some v → Value.okWide Try.prog W .any base t v := hval0
  have hW' := hW
  obtain ⟨p, q, hA0, hV, rfl, hfz, hnd⟩ := hW
  have hA : DataW.TrodAll enc Try.prog W 0 (fun _ => true) true Try.f6.params.toList args.toList ds p := hA0
  rw [Try.params6] at hA hval hsz
  obtain ⟨v0, vs0, d0, ds0, p0, q0, hargs, rfl, rfl, h0, r0⟩ := trodAll_cons hA
  obtain ⟨v1, vs1, d1, ds1, p1, q1, rfl, rfl, rfl, h1, r1⟩ := trodAll_cons r0
  obtain ⟨v2, vs2, d2, ds2, p2, q2, rfl, rfl, rfl, h2, r2⟩ := trodAll_cons r1
  obtain ⟨rfl, rfl, rfl⟩ := trodAll_nil r2
  obtain rfl : args = #[v0, v1, v2] := by cases args; simp_all
  obtain ⟨rfl, rfl⟩ := trodVars_none hV
  obtain ⟨A0, len0, c0, rfl⟩ := okWide_slice Try.underlying22 (hval 0 22 v0 rfl rfl)
  have k0 := h0
  have lt0 : ∀ x ∈ p0, x.block < W.heap.size := by obtain ⟨m, hm⟩ := k0; exact DataW.trod_lt m _ _ _ hm
  obtain ⟨l0, hr0, hl0, hlc0, hcm0, hw0⟩ := Go.Proofs.YtgippbgcmmjnbaaXr.open_row XB.k27 (fun _ => True) el27 Try.underlying22 (by kernel_rfl) k0
  have y0 : len0 * 40 ≤ 140737488351232 := Go.Proofs.YtgippbgcmmjnbaaXr.sized_row hsz (j := 0) (t := 22) rfl rfl Try.underlying22 (by kernel_rfl) k0
  subst hl0
  obtain ⟨a1, rfl, rfl, rfl, w1⟩ := open_int Try.underlying3 (hval 1 3 v1 rfl rfl) h1
  obtain ⟨a2, rfl, rfl, rfl, w2⟩ := open_int Try.underlying3 (hval 2 3 v2 rfl rfl) h2
  clear hA0 hval0 hsz0 hsz
  refine (Ct.checkAll_law A0 c0 l0 W hr0 hlc0 (Nat.le_trans hlc0 hcm0) a1 a2).mono fun e W' ⟨he, bel⟩ => ?_
  subst he
  exact ⟨_, rfl, _, _, _, [], _, [], hW', trodAll_mk1 (shut_bool Try.underlying4 _), (trodAll_cons_mk (Below.trod laidOut (by kernel_rfl) (of_decide_eq_true (by kernel_rfl)) k0 bel lt0) (trodAll_cons_mk (shut_int Try.underlying3 w1) (trodAll_cons_mk (shut_int Try.underlying3 w2) trodAll_mk0))), rfl, bel.frame _, fun h => by cases h⟩
theorem over : Rows.checkAllRow.holds Try.pinned (OpenSpec.ofChange Rows.checkAllSpec) :=
  OpenClaim.holds_of_wide 6 Try.f6 rfl rfl rfl rfl rfl rfl rfl ⟨rfl, rfl, rfl, rfl, rfl⟩ rfl rfl rfl rfl rfl (by kernel_rfl) Try.func6 (by kernel_rfl)
    (of_decide_eq_true (by kernel_rfl)) (by unfold Func.isWrapper; first | (rw [if_pos (by decide +kernel)]; kernel_rfl) | (rw [if_neg (by decide +kernel)]; exact ⟨rfl, rfl⟩))
    (fun os started H enc _ => lifted os started H enc)
theorem proved : Rows.CheckAllSaid := over
#print axioms proved
end Go.Proofs.Ytgippbgcmmjnbaa.checkAll
namespace Go.Proofs.Ytgippbgcmmjnbaa
/-- The row, under a short name, for the claim. -/
theorem checkAll_holds : Rows.CheckAllSaid := checkAll.proved
end Go.Proofs.Ytgippbgcmmjnbaa
