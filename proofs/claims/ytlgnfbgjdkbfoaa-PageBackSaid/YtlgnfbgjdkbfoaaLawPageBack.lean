/- A page's bytes are read as it; and what is read of any bytes may be, and is written as these; for every input. -/
import Derived.Test.YtlgnfbgjdkbfoaaRows
import Derived.Test.YtlgnfbgjdkbfoaaR11
import Derived.WalkKit
import Derived.ProofKit
import Derived.OpenShut
import Derived.ShutString
import Derived.ChangeOld
import Derived.Below
import Derived.SizedLaws
import Derived.Test.YtlgnfbgjdkbfoaaR00
import Derived.Test.YtlgnfbgjdkbfoaaR01
namespace Go.Proofs.Ytlgnfbgjdkbfoaa.pageBack
open Go.ChangeShapes Go.WideShapes Go.ChangeAt Go.RowKit
open Go.ChangeMaps (open_string shut_string)
set_option linter.unusedVariables false
theorem own : ownKnob Try.prog.godebug = none := by kernel_rfl
theorem laidOut : laidOutB Try.prog = true := by kernel_rfl
theorem el5 {H : Type} {enc : TypeId × Value → H} {W : World} {base : Nat} {spare : Nat → Bool} {held : Bool} (n : Nat) (cs : List Value) (y : DataW H × List MemPlace)
    (h : DataW.trod enc Try.prog W base spare held n 5 cs = some y) : ∃ a, (Go.Proofs.YtlgnfbgjdkbfoaaW.PrintWords.Kd.int .u8).K W a cs ∧ 0 ≤ a ∧ a < 256 := by
  obtain ⟨a, rfl, hw⟩ := Go.Proofs.YtlgnfbgjdkbfoaaXr.el_int Try.underlying5 h
  refine ⟨a, rfl, ?_⟩
  simp [Lit.wf, IntKind.min, IntKind.max, IntKind.signed, IntKind.bits] at hw
  omega
set_option maxRecDepth 100000
theorem el55 {H : Type} {enc : TypeId × Value → H} {W : World} {base : Nat} {spare : Nat → Bool} {held : Bool} (n : Nat) (cs : List Value) (y : DataW H × List MemPlace)
    (h : DataW.trod enc Try.prog W base spare held n 55 cs = some y) : ∃ a : XH.S55, XH.k55.K W a cs ∧ True := by
  obtain ⟨hl, hf⟩ := Go.Proofs.YtlgnfbgjdkbfoaaXr.fields_one Try.underlying55 h
  rw [show Try.prog.cellsOf 55 = 2 by kernel_rfl] at hl
  obtain ⟨m0, z0, h0⟩ := hf 0 _ rfl
  obtain ⟨m1, z1, h1⟩ := hf 1 _ rfl
  match cs, hl with
  | [c0, c1], _ =>
    obtain ⟨a0, e0, _⟩ := DataW.trod_string Try.underlying9 h0
    obtain ⟨a1, e1, _⟩ := DataW.trod_string Try.underlying9 h1
    simp [show Try.prog.cellsOf 9 = 1 by kernel_rfl] at e0 e1
    subst e0
    subst e1
    exact ⟨⟨a0, a1⟩, XH.k55_mk W ⟨a0, a1⟩, trivial⟩
theorem el63 {H : Type} {enc : TypeId × Value → H} {W : World} {base : Nat} {spare : Nat → Bool} {held : Bool} (n : Nat) (cs : List Value) (y : DataW H × List MemPlace)
    (h : DataW.trod enc Try.prog W base spare held n 63 cs = some y) : ∃ a : XH.S63, XH.k63.K W a cs ∧ ∀ z ∈ Pg.by63 a, 0 ≤ z ∧ z < 256 := by
  obtain ⟨l, hl, rfl, hw⟩ := Go.Proofs.YtlgnfbgjdkbfoaaXr.el_arr Try.underlying63 Try.underlying5 (by kernel_rfl) (by kernel_rfl) h
  have hw2 : ∀ z ∈ l, 0 ≤ z ∧ z < 256 := fun z hz => by
    have := hw z hz
    simp [Lit.wf, IntKind.min, IntKind.max, IntKind.signed, IntKind.bits] at this
    omega
  match l, hl with
  | [a0, a1, a2, a3, a4, a5, a6, a7, a8, a9, a10, a11, a12, a13, a14, a15, a16, a17, a18, a19, a20, a21, a22, a23, a24, a25, a26, a27, a28, a29, a30, a31], _ => exact ⟨⟨a0, a1, a2, a3, a4, a5, a6, a7, a8, a9, a10, a11, a12, a13, a14, a15, a16, a17, a18, a19, a20, a21, a22, a23, a24, a25, a26, a27, a28, a29, a30, a31⟩, XH.k63_mk W ⟨a0, a1, a2, a3, a4, a5, a6, a7, a8, a9, a10, a11, a12, a13, a14, a15, a16, a17, a18, a19, a20, a21, a22, a23, a24, a25, a26, a27, a28, a29, a30, a31⟩, hw2⟩
theorem el66 {H : Type} {enc : TypeId × Value → H} {W : World} {base : Nat} {spare : Nat → Bool} {held : Bool} (n : Nat) (cs : List Value) (y : DataW H × List MemPlace)
    (h : DataW.trod enc Try.prog W base spare held n 66 cs = some y) : ∃ a : XH.S66, XH.k66.K W a cs ∧ ∀ z ∈ Pg.by63 a.f1, 0 ≤ z ∧ z < 256 := by
  obtain ⟨hl, hf⟩ := Go.Proofs.YtlgnfbgjdkbfoaaXr.fields_one Try.underlying66 h
  rw [show Try.prog.cellsOf 66 = 34 by kernel_rfl] at hl
  obtain ⟨m0, z0, h0⟩ := hf 0 _ rfl
  obtain ⟨m1, z1, h1⟩ := hf 1 _ rfl
  obtain ⟨m2, z2, h2⟩ := hf 2 _ rfl
  obtain ⟨a0, e0, _⟩ := DataW.trod_string Try.underlying9 h0
  obtain ⟨a1, e1, w1⟩ := el63 _ _ _ h1
  obtain ⟨a2, e2, _⟩ := Go.Proofs.YtlgnfbgjdkbfoaaXr.el_int Try.underlying3 h2
  replace e0 : List.take (Try.prog.cellsOf 9) (List.drop 0 cs) = [.string a0] := e0
  replace e1 : XH.k63.K W a1 (List.take (Try.prog.cellsOf 63) (List.drop 1 cs)) := e1
  replace e2 : List.take (Try.prog.cellsOf 3) (List.drop 33 cs) = [.int .i64 a2] := e2
  rw [show Try.prog.cellsOf 9 = 1 by kernel_rfl, List.drop_zero] at e0
  rw [show Try.prog.cellsOf 63 = 32 by kernel_rfl] at e1
  rw [show Try.prog.cellsOf 3 = 1 by kernel_rfl] at e2
  have k1 := Go.Proofs.YtlgnfbgjdkbfoaaXr.cut_cells (cs := cs) (n := 33) 1 hl
  have k2 := Go.Proofs.YtlgnfbgjdkbfoaaXr.cut_cells (cs := cs.drop 1) (n := 1) 32 (by rw [List.length_drop]; omega)
  rw [List.drop_drop] at k2
  rw [List.take_of_length_le (l := cs.drop 1) (by rw [List.length_drop]; omega), e0] at k1
  rw [show 1 + 32 = 33 from rfl, e2, XH.k63_open e1] at k2
  refine ⟨⟨a0, a1, a2⟩, ?_, w1⟩
  rw [k1, k2]
  exact XH.k66_mk W ⟨a0, a1, a2⟩
def K27 (W : World) (a : Int × List XH.S55 × List XH.S66) (cs : List Value) : Prop := ∃ A1 c1 A2 c2, cs = [.int .i64 a.1, .slice A1 a.2.1.length c1, .slice A2 a.2.2.length c2] ∧ a.2.1.length ≤ c1 ∧ XH.k55.C W A1 a.2.1.length a.2.1 ∧ a.2.2.length ≤ c2 ∧ XH.k66.C W A2 a.2.2.length a.2.2
theorem el27 {H : Type} {enc : TypeId × Value → H} {W : World} {base : Nat} {spare : Nat → Bool} {held : Bool} (n : Nat) (cs : List Value) (y : DataW H × List MemPlace)
    (h : DataW.trod enc Try.prog W base spare held n 27 cs = some y) : ∃ a : Int × List XH.S55 × List XH.S66, K27 W a cs ∧ ∀ x ∈ a.2.2, ∀ z ∈ Pg.by63 x.f1, 0 ≤ z ∧ z < 256 := by
  obtain ⟨hl, hf⟩ := Go.Proofs.YtlgnfbgjdkbfoaaXr.fields_one Try.underlying27 h
  rw [show Try.prog.cellsOf 27 = 3 by kernel_rfl] at hl
  obtain ⟨m0, z0, h0⟩ := hf 0 _ rfl
  obtain ⟨m1, z1, h1⟩ := hf 1 _ rfl
  obtain ⟨m2, z2, h2⟩ := hf 2 _ rfl
  match cs, hl with
  | [c0, c1, c2], _ =>
    obtain ⟨a0, e0, _⟩ := Go.Proofs.YtlgnfbgjdkbfoaaXr.el_int Try.underlying3 h0
    obtain ⟨a1, e1, _⟩ := Go.Proofs.YtlgnfbgjdkbfoaaXr.el_slice XH.k55 (fun _ => True) el55 Try.underlying24 (by kernel_rfl) h1
    obtain ⟨a2, e2, w2⟩ := Go.Proofs.YtlgnfbgjdkbfoaaXr.el_slice XH.k66 (fun a => ∀ z ∈ Pg.by63 a.f1, 0 ≤ z ∧ z < 256) el66 Try.underlying25 (by kernel_rfl) h2
    obtain ⟨A1, q1, e1, l1, g1⟩ := e1
    obtain ⟨A2, q2, e2, l2, g2⟩ := e2
    simp [show Try.prog.cellsOf 3 = 1 by kernel_rfl] at e0
    simp [show Try.prog.cellsOf 24 = 1 by kernel_rfl, show Try.prog.cellsOf 25 = 1 by kernel_rfl] at e1 e2
    subst e0
    subst e1
    subst e2
    exact ⟨⟨a0, a1, a2⟩, ⟨A1, q1, A2, q2, rfl, l1, g1, l2, g2⟩, w2⟩
set_option maxRecDepth 100000 in
theorem lifted (os : Os) (started : os.Started) (H : Type) (enc : TypeId × Value → H) :
    ReturnsInHanded {} Try.checked os 4 .any (Rows.pageBackSpec.pre6 enc Try.prog Try.f4 Rows.pageBackRow.domain false) (Rows.pageBackSpec.post enc Try.prog Try.f4 false true false false) := by
  refine returnsInHanded_of_change_sized (C := Try.checked) own started (by kernel_rfl) Try.func4
    (ChangeSpec.witness6 (enc := enc) (C := Try.checked) false ⟨#[], #[.agg #[.int .i64 0, .slice none 0 0, .slice none 0 0], .slice none 0 0], []⟩ 8 (by kernel_rfl) (by kernel_rfl) (by kernel_rfl) (by kernel_rfl)) ?_
  intro W base args ds gs before hval0 hW hcnd hsz0 _
  have hsz : (DataW.weightsEach Try.prog (Try.f4.params.toList ++ Rows.pageBackSpec.plain.varTypes Try.prog) (ds ++ gs)).all (· ≤ reachBytes) = true := hsz0
  have hval : ∀ (j : Nat) t v, Try.f4.params[j]? = some t → args[j]? = some v → Value.okWide Try.prog W .any base t v := hval0
  have hW' := hW
  obtain ⟨p, q, hA0, hV, rfl, hfz, hnd⟩ := hW
  have hA : DataW.TrodAll enc Try.prog W 0 (fun _ => true) true Try.f4.params.toList args.toList ds p := hA0
  rw [Try.params4] at hA hval hsz
  obtain ⟨v0, vs0, d0, ds0, p0, q0, hargs, rfl, rfl, h0, r0⟩ := trodAll_cons hA
  obtain ⟨v1, vs1, d1, ds1, p1, q1, rfl, rfl, rfl, h1, r1⟩ := trodAll_cons r0
  obtain ⟨rfl, rfl, rfl⟩ := trodAll_nil r1
  obtain rfl : args = #[v0, v1] := by cases args; simp_all
  obtain ⟨rfl, rfl⟩ := trodVars_none hV
  obtain ⟨cs0, rfl, _⟩ := okWide_struct Try.underlying27 (hval 0 27 v0 rfl rfl)
  have k0 := h0
  have lt0 : ∀ x ∈ p0, x.block < W.heap.size := by obtain ⟨m, hm⟩ := k0; exact DataW.trod_lt m _ _ _ hm
  obtain ⟨x0, hK0, hw0⟩ : ∃ a, K27 W a cs0.toList ∧ (fun a => ∀ x ∈ a.2.2, ∀ z ∈ Pg.by63 x.f1, 0 ≤ z ∧ z < 256) a := by obtain ⟨m, hm⟩ := h0; exact el27 m _ _ hm
  obtain ⟨B10, d10, B20, d20, e00, g10, g20, g30, g40⟩ := hK0; obtain rfl : cs0 = #[.int .i64 x0.1, .slice B10 x0.2.1.length d10, .slice B20 x0.2.2.length d20] := by apply Array.ext'; rw [e00]
  obtain ⟨A1, len1, c1, rfl⟩ := okWide_slice Try.underlying22 (hval 1 22 v1 rfl rfl)
  have k1 := h1
  have lt1 : ∀ x ∈ p1, x.block < W.heap.size := by obtain ⟨m, hm⟩ := k1; exact DataW.trod_lt m _ _ _ hm
  obtain ⟨l1, hr1, hl1, hlc1, hcm1, hw1⟩ := Go.Proofs.YtlgnfbgjdkbfoaaXr.open_row (Go.Proofs.YtlgnfbgjdkbfoaaW.PrintWords.Kd.int .u8) (fun a => 0 ≤ a ∧ a < 256) el5 Try.underlying22 (by kernel_rfl) k1
  have y1 : len1 * 1 ≤ 140737488351232 := Go.Proofs.YtlgnfbgjdkbfoaaXr.sized_row hsz (j := 1) (t := 22) rfl rfl Try.underlying22 (by kernel_rfl) k1
  subst hl1
  clear hA0 hval0 hsz0 hsz
  refine (Go.Proofs.Ytlgnfbgjdkbfoaa.Pg.pageBack_law x0.1 B10 d10 x0.2.1 B20 d20 x0.2.2 A1 c1 l1 W g20 g40 g10 g30 g20.2.1 g40.2.1 hw0 hr1 hlc1 hw1 (by omega)).mono fun e W' ⟨he, bel⟩ => ?_
  subst he
  exact ⟨_, rfl, _, _, _, [], _, [], hW', trodAll_mk1 (shut_bool Try.underlying4 _), (trodAll_cons_mk (Below.trod laidOut (by kernel_rfl) (of_decide_eq_true (by kernel_rfl)) k0 bel lt0) (trodAll_cons_mk (Below.trod laidOut (by kernel_rfl) (of_decide_eq_true (by kernel_rfl)) k1 bel lt1) trodAll_mk0)), rfl, bel.frame _, fun h => by cases h⟩
theorem over : Rows.pageBackRow.holds Try.pinned (OpenSpec.ofChange Rows.pageBackSpec) :=
  OpenClaim.holds_of_wide 4 Try.f4 rfl rfl rfl rfl rfl rfl rfl ⟨rfl, rfl, rfl, rfl, rfl⟩ rfl rfl rfl rfl rfl (by kernel_rfl) Try.func4 (by kernel_rfl)
    (of_decide_eq_true (by kernel_rfl)) (by unfold Func.isWrapper; first | (rw [if_pos (by decide +kernel)]; kernel_rfl) | (rw [if_neg (by decide +kernel)]; exact ⟨rfl, rfl⟩))
    (fun os started H enc _ => lifted os started H enc)
theorem proved : Rows.PageBackSaid := over
#print axioms proved
end Go.Proofs.Ytlgnfbgjdkbfoaa.pageBack
namespace Go.Proofs.Ytlgnfbgjdkbfoaa
/-- The row, under a short name, for the claim. -/
theorem pageBack_holds : Rows.PageBackSaid := pageBack.proved
end Go.Proofs.Ytlgnfbgjdkbfoaa
