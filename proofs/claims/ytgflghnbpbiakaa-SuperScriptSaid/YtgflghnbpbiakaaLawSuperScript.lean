/- What is loaded and saved, wherever the disk goes out, and whatever stays, is told as the document says; for every input. -/
import Derived.Test.YtgflghnbpbiakaaRows
import Derived.Test.YtgflghnbpbiakaaV14
import Derived.WalkKit
import Derived.ProofKit
import Derived.OpenShut
import Derived.ShutString
import Derived.ChangeOld
import Derived.Below
import Derived.SizedLaws
import Derived.Test.YtgflghnbpbiakaaV00
import Derived.Test.YtgflghnbpbiakaaV01
namespace Go.Proofs.Ytgflghnbpbiakaa.superScript
open Go.ChangeShapes Go.WideShapes Go.ChangeAt Go.RowKit
open Go.ChangeMaps (open_string shut_string)
set_option linter.unusedVariables false
theorem own : ownKnob Try.prog.godebug = none := by kernel_rfl
theorem laidOut : laidOutB Try.prog = true := by kernel_rfl
theorem keq (a : Su.SP) (cs : List Value) : (cs = Su.c25 a) = (cs = Su.c25 a) := rfl
def KEQ (a : Su.SP) (cs : List Value) : Prop := cs = Su.c25 a
theorem el5 {H : Type} {enc : TypeId × Value → H} {W : World} {base : Nat} {spare : Nat → Bool} {held : Bool} (n : Nat) (cs : List Value) (y : DataW H × List MemPlace)
    (h : DataW.trod enc Try.prog W base spare held n 5 cs = some y) : ∃ a, (Go.Proofs.YtgflghnbpbiakaaW.PrintWords.Kd.int .u8).K W a cs ∧ 0 ≤ a ∧ a < 256 := by
  obtain ⟨a, rfl, hw⟩ := Go.Proofs.YtgflghnbpbiakaaXr.el_int Try.underlying5 h
  refine ⟨a, rfl, ?_⟩
  simp [Lit.wf, IntKind.min, IntKind.max, IntKind.signed, IntKind.bits] at hw
  omega
set_option maxRecDepth 100000
theorem el23 {H : Type} {enc : TypeId × Value → H} {W : World} {base : Nat} {spare : Nat → Bool} {held : Bool} (n : Nat) (cs : List Value) (y : DataW H × List MemPlace)
    (h : DataW.trod enc Try.prog W base spare held n 23 cs = some y) : ∃ l : List Int, l.length = 32 ∧ cs = Go.Proofs.Ytgflghnbpbiakaa.H.u8s l ∧ Go.Proofs.Ytgflghnbpbiakaa.H.Bytes l := by
  obtain ⟨l, hl, rfl, hw⟩ := Go.Proofs.YtgflghnbpbiakaaXr.el_arr Try.underlying23 Try.underlying5 (by kernel_rfl) (by kernel_rfl) h
  refine ⟨l, hl, rfl, fun z hz => ?_⟩
  have := hw z hz
  simp [Lit.wf, IntKind.min, IntKind.max, IntKind.signed, IntKind.bits] at this
  omega
theorem el25 {H : Type} {enc : TypeId × Value → H} {W : World} {base : Nat} {spare : Nat → Bool} {held : Bool} (n : Nat) (cs : List Value) (y : DataW H × List MemPlace)
    (h : DataW.trod enc Try.prog W base spare held n 25 cs = some y) : ∃ a : Su.SP, KEQ a cs ∧ a.root.length = 32 ∧ Go.Proofs.Ytgflghnbpbiakaa.H.Bytes a.root := by
  obtain ⟨hl, hf⟩ := Go.Proofs.YtgflghnbpbiakaaXr.fields_one Try.underlying25 h
  rw [show Try.prog.cellsOf 25 = 35 by kernel_rfl] at hl
  obtain ⟨m0, z0, h0⟩ := hf 0 _ rfl
  obtain ⟨m1, z1, h1⟩ := hf 1 _ rfl
  obtain ⟨m2, z2, h2⟩ := hf 2 _ rfl
  obtain ⟨m3, z3, h3⟩ := hf 3 _ rfl
  obtain ⟨a0, e0, _⟩ := Go.Proofs.YtgflghnbpbiakaaXr.el_int Try.underlying3 h0
  obtain ⟨a1, l1, e1, w1⟩ := el23 _ _ _ h1
  obtain ⟨a2, e2, _⟩ := Go.Proofs.YtgflghnbpbiakaaXr.el_int Try.underlying3 h2
  obtain ⟨a3, e3, _⟩ := Go.Proofs.YtgflghnbpbiakaaXr.el_int Try.underlying3 h3
  replace e0 : List.take (Try.prog.cellsOf 3) (List.drop 0 cs) = [.int .i64 a0] := e0
  replace e1 : List.take (Try.prog.cellsOf 23) (List.drop 1 cs) = Go.Proofs.Ytgflghnbpbiakaa.H.u8s a1 := e1
  replace e2 : List.take (Try.prog.cellsOf 3) (List.drop 33 cs) = [.int .i64 a2] := e2
  replace e3 : List.take (Try.prog.cellsOf 3) (List.drop 34 cs) = [.int .i64 a3] := e3
  rw [show Try.prog.cellsOf 3 = 1 by kernel_rfl] at e0 e2 e3
  rw [List.drop_zero] at e0
  rw [show Try.prog.cellsOf 23 = 32 by kernel_rfl] at e1
  refine ⟨⟨a0, a1, a2, a3⟩, ?_, l1, w1⟩
  have k0 := (List.take_append_drop 1 cs).symm
  have k1 := (List.take_append_drop 32 (cs.drop 1)).symm
  have k2 := (List.take_append_drop 1 (cs.drop 33)).symm
  have k3 := List.take_of_length_le (l := cs.drop 34) (i := 1) (by rw [List.length_drop]; omega)
  rw [List.drop_drop] at k1 k2
  rw [e0] at k0
  rw [e1] at k1
  rw [e2] at k2
  rw [e3] at k3
  show cs = Su.c25 ⟨a0, a1, a2, a3⟩
  rw [k0, k1, k2, ← k3]
  rfl
theorem el4 {H : Type} {enc : TypeId × Value → H} {W : World} {base : Nat} {spare : Nat → Bool} {held : Bool} (n : Nat) (cs : List Value) (y : DataW H × List MemPlace)
    (h : DataW.trod enc Try.prog W base spare held n 4 cs = some y) : ∃ a, (Go.Proofs.YtgflghnbpbiakaaW.PrintWords.Kd.bool).K W a cs ∧ True := by
  obtain ⟨a, h1, _⟩ := DataW.trod_bool Try.underlying4 h
  exact ⟨a, h1, trivial⟩
theorem el23x {H : Type} {enc : TypeId × Value → H} {W : World} {base : Nat} {spare : Nat → Bool} {held : Bool} (n : Nat) (cs : List Value) (y : DataW H × List MemPlace)
    (h : DataW.trod enc Try.prog W base spare held n 23 cs = some y) : ∃ a : XH.S23, XH.k23.K W a cs ∧ Go.Proofs.Ytgflghnbpbiakaa.H.Bytes (Su.by23 a) := by
  obtain ⟨l, hl, rfl, hw⟩ := el23 n cs y h
  match l, hl with
  | [a0, a1, a2, a3, a4, a5, a6, a7, a8, a9, a10, a11, a12, a13, a14, a15, a16, a17, a18, a19, a20, a21, a22, a23, a24, a25, a26, a27, a28, a29, a30, a31], _ => exact ⟨⟨a0, a1, a2, a3, a4, a5, a6, a7, a8, a9, a10, a11, a12, a13, a14, a15, a16, a17, a18, a19, a20, a21, a22, a23, a24, a25, a26, a27, a28, a29, a30, a31⟩, XH.k23_mk W ⟨a0, a1, a2, a3, a4, a5, a6, a7, a8, a9, a10, a11, a12, a13, a14, a15, a16, a17, a18, a19, a20, a21, a22, a23, a24, a25, a26, a27, a28, a29, a30, a31⟩, hw⟩
theorem el64 {H : Type} {enc : TypeId × Value → H} {W : World} {base : Nat} {spare : Nat → Bool} {held : Bool} (n : Nat) (cs : List Value) (y : DataW H × List MemPlace)
    (h : DataW.trod enc Try.prog W base spare held n 64 cs = some y) : ∃ a : XH.S64, XH.k64.K W a cs ∧ Su.wfA a := by
  obtain ⟨hl, hf⟩ := Go.Proofs.YtgflghnbpbiakaaXr.fields_one Try.underlying64 h
  rw [show Try.prog.cellsOf 64 = 39 by kernel_rfl] at hl
  obtain ⟨m0, z0, h0⟩ := hf 0 _ rfl
  obtain ⟨m1, z1, h1⟩ := hf 1 _ rfl
  obtain ⟨m2, z2, h2⟩ := hf 2 _ rfl
  obtain ⟨m3, z3, h3⟩ := hf 3 _ rfl
  obtain ⟨m4, z4, h4⟩ := hf 4 _ rfl
  obtain ⟨a0, e0, _⟩ := Go.Proofs.YtgflghnbpbiakaaXr.el_int Try.underlying3 h0
  obtain ⟨a1, e1, w1⟩ := Go.Proofs.YtgflghnbpbiakaaXr.el_int Try.underlying3 h1
  obtain ⟨a2, e2, l2, w2⟩ := el25 _ _ _ h2
  obtain ⟨a3, e3, _⟩ := Go.Proofs.YtgflghnbpbiakaaXr.el_slice (Go.Proofs.YtgflghnbpbiakaaW.PrintWords.Kd.bool) (fun _ => True) el4 Try.underlying62 (by kernel_rfl) h3
  obtain ⟨a4, e4, w4⟩ := Go.Proofs.YtgflghnbpbiakaaXr.el_slice (Go.Proofs.YtgflghnbpbiakaaW.PrintWords.Kd.int .u8) (fun a => 0 ≤ a ∧ a < 256) el5 Try.underlying26 (by kernel_rfl) h4
  obtain ⟨A3, q3, e3, l3, g3⟩ := e3
  obtain ⟨A4, q4, e4, l4, g4⟩ := e4
  replace e0 : List.take (Try.prog.cellsOf 3) (List.drop 0 cs) = [.int .i64 a0] := e0
  replace e1 : List.take (Try.prog.cellsOf 3) (List.drop 1 cs) = [.int .i64 a1] := e1
  replace e2 : List.take (Try.prog.cellsOf 25) (List.drop 2 cs) = Su.c25 a2 := e2
  replace e3 : List.take (Try.prog.cellsOf 62) (List.drop 37 cs) = [.slice A3 a3.length q3] := e3
  replace e4 : List.take (Try.prog.cellsOf 26) (List.drop 38 cs) = [.slice A4 a4.length q4] := e4
  rw [show Try.prog.cellsOf 3 = 1 by kernel_rfl] at e0 e1
  rw [List.drop_zero] at e0
  rw [show Try.prog.cellsOf 25 = 35 by kernel_rfl] at e2
  rw [show Try.prog.cellsOf 62 = 1 by kernel_rfl] at e3
  rw [show Try.prog.cellsOf 26 = 1 by kernel_rfl] at e4
  obtain ⟨rn, rr, ra, rs⟩ := a2
  have hb : Go.Proofs.Ytgflghnbpbiakaa.H.Bytes rr := w2
  have hrl : rr.length = 32 := l2
  match rr, hrl with
  | [r0, r1, r2, r3, r4, r5, r6, r7, r8, r9, r10, r11, r12, r13, r14, r15, r16, r17, r18, r19, r20, r21, r22, r23, r24, r25, r26, r27, r28, r29, r30, r31], _ =>
    refine ⟨⟨a0, a1, ⟨rn, ⟨r0, r1, r2, r3, r4, r5, r6, r7, r8, r9, r10, r11, r12, r13, r14, r15, r16, r17, r18, r19, r20, r21, r22, r23, r24, r25, r26, r27, r28, r29, r30, r31⟩, ra, rs⟩, a3, a4⟩, ?_, ⟨?_, hb, w4⟩⟩
    rotate_left
    · simp [Lit.wf, IntKind.min, IntKind.max, IntKind.signed, IntKind.bits] at w1
      show a1 ≤ 9223372036854775807
      omega
    have k0 := (List.take_append_drop 1 cs).symm
    have k1 := (List.take_append_drop 1 (cs.drop 1)).symm
    have k2 := (List.take_append_drop 35 (cs.drop 2)).symm
    have k3 := (List.take_append_drop 1 (cs.drop 37)).symm
    have k4 := List.take_of_length_le (l := cs.drop 38) (i := 1) (by rw [List.length_drop]; omega)
    rw [List.drop_drop] at k1 k2 k3
    rw [e0] at k0
    rw [e1] at k1
    rw [e2] at k2
    rw [e3] at k3
    rw [e4] at k4
    rw [k0, k1, k2, k3, ← k4]
    exact XH.k64_mk W ⟨a0, a1, ⟨rn, ⟨r0, r1, r2, r3, r4, r5, r6, r7, r8, r9, r10, r11, r12, r13, r14, r15, r16, r17, r18, r19, r20, r21, r22, r23, r24, r25, r26, r27, r28, r29, r30, r31⟩, ra, rs⟩, a3, a4⟩ l3 g3 l4 g4
set_option maxRecDepth 100000 in
theorem lifted (os : Os) (started : os.Started) (H : Type) (enc : TypeId × Value → H) :
    ReturnsInHanded {} Try.checked os 7 .any (Rows.superScriptSpec.pre6 enc Try.prog Try.f7 Rows.superScriptRow.domain false) (Rows.superScriptSpec.post enc Try.prog Try.f7 false true false false) := by
  refine returnsInHanded_of_change_sized (C := Try.checked) own started (by kernel_rfl) Try.func7
    (ChangeSpec.witness6 (enc := enc) (C := Try.checked) false ⟨#[], #[.int .i64 0, .slice none 0 0], []⟩ 8 (by kernel_rfl) (by kernel_rfl) (by kernel_rfl) (by kernel_rfl)) ?_
  intro W base args ds gs before hval0 hW hcnd hsz0 _
  have hsz : (DataW.weightsEach Try.prog (Try.f7.params.toList ++ Rows.superScriptSpec.plain.varTypes Try.prog) (ds ++ gs)).all (· ≤ reachBytes) = true := hsz0
  have hval : ∀ (j : Nat) t v, Try.f7.params[j]? = some t → args[j]? = some v → Value.okWide Try.prog W .any base t v := hval0
  have hW' := hW
  obtain ⟨p, q, hA0, hV, rfl, hfz, hnd⟩ := hW
  have hA : DataW.TrodAll enc Try.prog W 0 (fun _ => true) true Try.f7.params.toList args.toList ds p := hA0
  rw [Try.params7] at hA hval hsz
  obtain ⟨v0, vs0, d0, ds0, p0, q0, hargs, rfl, rfl, h0, r0⟩ := trodAll_cons hA
  obtain ⟨v1, vs1, d1, ds1, p1, q1, rfl, rfl, rfl, h1, r1⟩ := trodAll_cons r0
  obtain ⟨rfl, rfl, rfl⟩ := trodAll_nil r1
  obtain rfl : args = #[v0, v1] := by cases args; simp_all
  obtain ⟨rfl, rfl⟩ := trodVars_none hV
  obtain ⟨a0, rfl, rfl, rfl, w0⟩ := open_int Try.underlying3 (hval 0 3 v0 rfl rfl) h0
  obtain ⟨A1, len1, c1, rfl⟩ := okWide_slice Try.underlying55 (hval 1 55 v1 rfl rfl)
  have k1 := h1
  have lt1 : ∀ x ∈ p1, x.block < W.heap.size := by obtain ⟨m, hm⟩ := k1; exact DataW.trod_lt m _ _ _ hm
  obtain ⟨l1, hr1, hl1, hlc1, hcm1, hw1⟩ := Go.Proofs.YtgflghnbpbiakaaXr.open_row XH.k64 (fun a => Su.wfA a) el64 Try.underlying55 (by kernel_rfl) k1
  have y1 : len1 * 120 ≤ 140737488351232 := Go.Proofs.YtgflghnbpbiakaaXr.sized_row hsz (j := 1) (t := 55) rfl rfl Try.underlying55 (by kernel_rfl) k1
  subst hl1
  clear hA0 hval0 hsz0 hsz
  refine (Su.superScript_law a0 A1 c1 l1 W hr1 hlc1 hw1).mono fun e W' ⟨he, bel⟩ => ?_
  subst he
  exact ⟨_, rfl, _, _, _, [], _, [], hW', trodAll_mk1 (shut_bool Try.underlying4 _), (trodAll_cons_mk (shut_int Try.underlying3 w0) (trodAll_cons_mk (Below.trod laidOut (by kernel_rfl) (of_decide_eq_true (by kernel_rfl)) k1 bel lt1) trodAll_mk0)), rfl, bel.frame _, fun h => by cases h⟩
theorem over : Rows.superScriptRow.holds Try.pinned (OpenSpec.ofChange Rows.superScriptSpec) :=
  OpenClaim.holds_of_wide 7 Try.f7 rfl rfl rfl rfl rfl rfl rfl ⟨rfl, rfl, rfl, rfl, rfl⟩ rfl rfl rfl rfl rfl (by kernel_rfl) Try.func7 (by kernel_rfl)
    (of_decide_eq_true (by kernel_rfl)) (by unfold Func.isWrapper; first | (rw [if_pos (by decide +kernel)]; kernel_rfl) | (rw [if_neg (by decide +kernel)]; exact ⟨rfl, rfl⟩))
    (fun os started H enc _ => lifted os started H enc)
theorem proved : Rows.SuperScriptSaid := over
#print axioms proved
end Go.Proofs.Ytgflghnbpbiakaa.superScript
namespace Go.Proofs.Ytgflghnbpbiakaa
/-- The row, under a short name, for the claim. -/
theorem superScript_holds : Rows.SuperScriptSaid := superScript.proved
end Go.Proofs.Ytgflghnbpbiakaa
