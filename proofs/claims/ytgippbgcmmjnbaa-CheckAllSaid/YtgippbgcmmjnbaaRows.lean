/-
  No cell of these rows narrows 'for every input' (looked for: loops, veiled, ifaces, maps, wideKeys, modest, calm, conditions, laid).
  DERIVED. THE GIVEN ROWS OF THIS SEAT. 5 by the template 'for every input the law returns true; each argument reads behind the call as it read before'; 0 by the template 'total and deterministic' (their statements: YtgippbgcmmjnbaaTotals.lean).
  GIVEN WITH THE SEED: the statements are not yours to turn. If you find one false, say at which input.
  Laid BY PROGRAM, IN A SANDBOX (cutbox-rows.mjs): the forced cells as the released guide's own fill.sh prints them over the translation 084417c2fd614d21… (all of the seat's roots in one cut). By AI agents, Wed Nov 11 2026. No macro, syntax, notation, axiom, sorry.
-/
import Derived.Test.YtgippbgcmmjnbaaChecked
import GoSem.Claim
import GoSem.ClaimJoined
import GoSem.ClaimMapViews
import Derived.JoinedTies
import Derived.KernelRfl
namespace Go.Proofs.Ytgippbgcmmjnbaa
/- THE CELL 'sum', in the pinned program and in every row, IS THE sha256 OF THE DUMP (.gsa) THAT YtgippbgcmmjnbaaProg.lean LOADS. Nothing in Lean hashes anything: it is a label: what it is worth is what the hold of that sum in a sandbox is worth. -/
noncomputable def Try.pinned : Pinned := { name := "ytgippbgcmmjnbaa", sum := "084417c2fd614d2170ecaac51cac3c388c404bbc75d9df85ab7fc8c574552225", checked := Try.checked }
namespace Rows
def none {H : Type} : Left H := { results := [], args := [] }

/-- 'retconlaw23.CheckTells': WHATEVER THE INPUT: true; the input reads as it did. -/
def checkTellsSpec : ChangeSpec := { name := "checkTells", fn := fun _ => fun
  | [d1, d2, d3] => { results := [.lit (.bool true)], args := [d1, d2, d3] }
  | _ => none }
def checkTellsRow : OpenClaim := { program := "ytgippbgcmmjnbaa", sum := "084417c2fd614d2170ecaac51cac3c388c404bbc75d9df85ab7fc8c574552225", func := "retcon/retconlaw23.CheckTells", spec := "checkTells", unfollowed := true, recurses := true, apart := false }
def CheckTellsSaid : Prop := checkTellsRow.holds Try.pinned (OpenSpec.ofChange checkTellsSpec)

/-- ITS FALSE NEIGHBOUR: 'it returns false'. Refute it at one input. -/
def checkTellsWrong : ChangeSpec := { name := "checkTells", fn := fun _ => fun
  | [d1, d2, d3] => { results := [.lit (.bool false)], args := [d1, d2, d3] }
  | _ => none }
def CheckTellsWrongFalsely : Prop := checkTellsRow.holds Try.pinned (OpenSpec.ofChange checkTellsWrong)

/-- 'retconlaw23.CheckNear': WHATEVER THE INPUT: true; the input reads as it did. -/
def checkNearSpec : ChangeSpec := { name := "checkNear", fn := fun _ => fun
  | [d1, d2, d3] => { results := [.lit (.bool true)], args := [d1, d2, d3] }
  | _ => none }
def checkNearRow : OpenClaim := { program := "ytgippbgcmmjnbaa", sum := "084417c2fd614d2170ecaac51cac3c388c404bbc75d9df85ab7fc8c574552225", func := "retcon/retconlaw23.CheckNear", spec := "checkNear", unfollowed := true, recurses := true, apart := false }
def CheckNearSaid : Prop := checkNearRow.holds Try.pinned (OpenSpec.ofChange checkNearSpec)

/-- ITS FALSE NEIGHBOUR: 'it returns false'. Refute it at one input. -/
def checkNearWrong : ChangeSpec := { name := "checkNear", fn := fun _ => fun
  | [d1, d2, d3] => { results := [.lit (.bool false)], args := [d1, d2, d3] }
  | _ => none }
def CheckNearWrongFalsely : Prop := checkNearRow.holds Try.pinned (OpenSpec.ofChange checkNearWrong)

/-- 'retconlaw23.CheckPuts': WHATEVER THE INPUT: true; the input reads as it did. -/
def checkPutsSpec : ChangeSpec := { name := "checkPuts", fn := fun _ => fun
  | [d1, d2] => { results := [.lit (.bool true)], args := [d1, d2] }
  | _ => none }
def checkPutsRow : OpenClaim := { program := "ytgippbgcmmjnbaa", sum := "084417c2fd614d2170ecaac51cac3c388c404bbc75d9df85ab7fc8c574552225", func := "retcon/retconlaw23.CheckPuts", spec := "checkPuts", inPlace := ["slices.overlaps[retcon/api.Mark]"], unfollowed := true, recurses := true, apart := false }
def CheckPutsSaid : Prop := checkPutsRow.holds Try.pinned (OpenSpec.ofChange checkPutsSpec)

/-- ITS FALSE NEIGHBOUR: 'it returns false'. Refute it at one input. -/
def checkPutsWrong : ChangeSpec := { name := "checkPuts", fn := fun _ => fun
  | [d1, d2] => { results := [.lit (.bool false)], args := [d1, d2] }
  | _ => none }
def CheckPutsWrongFalsely : Prop := checkPutsRow.holds Try.pinned (OpenSpec.ofChange checkPutsWrong)

/-- 'retconlaw23.CheckAll': WHATEVER THE INPUT: true; the input reads as it did. -/
def checkAllSpec : ChangeSpec := { name := "checkAll", fn := fun _ => fun
  | [d1, d2, d3] => { results := [.lit (.bool true)], args := [d1, d2, d3] }
  | _ => none }
def checkAllRow : OpenClaim := { program := "ytgippbgcmmjnbaa", sum := "084417c2fd614d2170ecaac51cac3c388c404bbc75d9df85ab7fc8c574552225", func := "retcon/retconlaw23.CheckAll", spec := "checkAll", inPlace := ["slices.overlaps[retcon/api.Mark]"], unfollowed := true, recurses := true, apart := false }
def CheckAllSaid : Prop := checkAllRow.holds Try.pinned (OpenSpec.ofChange checkAllSpec)

/-- ITS FALSE NEIGHBOUR: 'it returns false'. Refute it at one input. -/
def checkAllWrong : ChangeSpec := { name := "checkAll", fn := fun _ => fun
  | [d1, d2, d3] => { results := [.lit (.bool false)], args := [d1, d2, d3] }
  | _ => none }
def CheckAllWrongFalsely : Prop := checkAllRow.holds Try.pinned (OpenSpec.ofChange checkAllWrong)

/-- 'retconlaw23.CheckKnown': WHATEVER THE INPUT: true; the input reads as it did. -/
def checkKnownSpec : ChangeSpec := { name := "checkKnown", fn := fun _ => fun
  | [] => { results := [.lit (.bool true)], args := [] }
  | _ => none }
def checkKnownRow : OpenClaim := { program := "ytgippbgcmmjnbaa", sum := "084417c2fd614d2170ecaac51cac3c388c404bbc75d9df85ab7fc8c574552225", func := "retcon/retconlaw23.CheckKnown", spec := "checkKnown", inPlace := ["slices.overlaps[retcon/api.Mark]"], unfollowed := true, recurses := true, apart := false }
def CheckKnownSaid : Prop := checkKnownRow.holds Try.pinned (OpenSpec.ofChange checkKnownSpec)

/-- ITS FALSE NEIGHBOUR: 'it returns false'. Refute it at one input. -/
def checkKnownWrong : ChangeSpec := { name := "checkKnown", fn := fun _ => fun
  | [] => { results := [.lit (.bool false)], args := [] }
  | _ => none }
def CheckKnownWrongFalsely : Prop := checkKnownRow.holds Try.pinned (OpenSpec.ofChange checkKnownWrong)

/- THE SECOND FORM. 'bulk': how many values and letters a reading holds, each counted each time it is reached (what is shared counts as often as it is met; a slice's spare places count too). A statement '..UptoSaid' is the law's where the arguments, and the package variables that the reading takes, are together of bulk at most 1048576: NARROWER than '..Said'. Prove '..Said' where nothing that the law and all that it calls make is longer than what came in: it says more and counts as full. Else prove '..UptoSaid'. A law counts once. -/
mutual
def uptoBulk {H : Type} : DataW H → Nat
  | .lit (.string bytes) => bytes.length + 1
  | .lit _ => 1
  | .nil => 1
  | .ptr d => uptoBulk d + 1
  | .slice elems spare => uptoBulkAll elems + uptoBulkAll spare + 1
  | .agg parts => uptoBulkAll parts + 1
  | .iface _ d => uptoBulk d + 1
  | .map entries => uptoBulkEntries entries + 1
  | .held _ => 1
def uptoBulkAll {H : Type} : List (DataW H) → Nat
  | [] => 0
  | d :: r => uptoBulk d + uptoBulkAll r
def uptoBulkEntries {H : Type} : List (Lit × DataW H) → Nat
  | [] => 0
  | x :: r => uptoBulkEntry x + uptoBulkEntries r
def uptoBulkEntry {H : Type} : Lit × DataW H → Nat
  | (.string bytes, d) => bytes.length + uptoBulk d + 1
  | (_, d) => uptoBulk d + 1
 end
def uptoSmall : (H : Type) → List (DataW H) → Bool := fun _ ds => decide (uptoBulkAll ds ≤ 1048576)
def OpenSpec.upto (s : _root_.Go.ChangeSpec) : _root_.Go.OpenSpec := { _root_.Go.OpenSpec.ofChange s with cond := some uptoSmall }

/-- 'retconlaw23.CheckTells', WHERE WHAT IT READS IS OF BULK AT MOST 1048576: true; the input reads as it did. -/
def checkTellsUptoRow : OpenClaim := { program := "ytgippbgcmmjnbaa", sum := "084417c2fd614d2170ecaac51cac3c388c404bbc75d9df85ab7fc8c574552225", func := "retcon/retconlaw23.CheckTells", spec := "checkTells", unfollowed := true, recurses := true, apart := false, narrowed := true }
def CheckTellsUptoSaid : Prop := checkTellsUptoRow.holds Try.pinned (OpenSpec.upto checkTellsSpec)

/-- 'retconlaw23.CheckNear', WHERE WHAT IT READS IS OF BULK AT MOST 1048576: true; the input reads as it did. -/
def checkNearUptoRow : OpenClaim := { program := "ytgippbgcmmjnbaa", sum := "084417c2fd614d2170ecaac51cac3c388c404bbc75d9df85ab7fc8c574552225", func := "retcon/retconlaw23.CheckNear", spec := "checkNear", unfollowed := true, recurses := true, apart := false, narrowed := true }
def CheckNearUptoSaid : Prop := checkNearUptoRow.holds Try.pinned (OpenSpec.upto checkNearSpec)

/-- 'retconlaw23.CheckPuts', WHERE WHAT IT READS IS OF BULK AT MOST 1048576: true; the input reads as it did. -/
def checkPutsUptoRow : OpenClaim := { program := "ytgippbgcmmjnbaa", sum := "084417c2fd614d2170ecaac51cac3c388c404bbc75d9df85ab7fc8c574552225", func := "retcon/retconlaw23.CheckPuts", spec := "checkPuts", inPlace := ["slices.overlaps[retcon/api.Mark]"], unfollowed := true, recurses := true, apart := false, narrowed := true }
def CheckPutsUptoSaid : Prop := checkPutsUptoRow.holds Try.pinned (OpenSpec.upto checkPutsSpec)

/-- 'retconlaw23.CheckAll', WHERE WHAT IT READS IS OF BULK AT MOST 1048576: true; the input reads as it did. -/
def checkAllUptoRow : OpenClaim := { program := "ytgippbgcmmjnbaa", sum := "084417c2fd614d2170ecaac51cac3c388c404bbc75d9df85ab7fc8c574552225", func := "retcon/retconlaw23.CheckAll", spec := "checkAll", inPlace := ["slices.overlaps[retcon/api.Mark]"], unfollowed := true, recurses := true, apart := false, narrowed := true }
def CheckAllUptoSaid : Prop := checkAllUptoRow.holds Try.pinned (OpenSpec.upto checkAllSpec)

/-- 'retconlaw23.CheckKnown', WHERE WHAT IT READS IS OF BULK AT MOST 1048576: true; the input reads as it did. -/
def checkKnownUptoRow : OpenClaim := { program := "ytgippbgcmmjnbaa", sum := "084417c2fd614d2170ecaac51cac3c388c404bbc75d9df85ab7fc8c574552225", func := "retcon/retconlaw23.CheckKnown", spec := "checkKnown", inPlace := ["slices.overlaps[retcon/api.Mark]"], unfollowed := true, recurses := true, apart := false, narrowed := true }
def CheckKnownUptoSaid : Prop := checkKnownUptoRow.holds Try.pinned (OpenSpec.upto checkKnownSpec)

end Rows
end Go.Proofs.Ytgippbgcmmjnbaa
