/-
  No cell of these rows narrows 'for every input' (looked for: loops, veiled, ifaces, maps, wideKeys, modest, calm, conditions, laid).
  DERIVED. THE GIVEN ROWS OF THIS SEAT. 5 by the template 'for every input the law returns true; each argument reads behind the call as it read before'; 0 by the template 'total and deterministic' (their statements: YtobleaodacnpiaaTotals.lean).
  GIVEN WITH THE SEED: the statements are not yours to turn. If you find one false, say at which input.
  Laid BY PROGRAM, IN A SANDBOX (cutbox-rows.mjs): the forced cells as the released guide's own fill.sh prints them over the translation 365a8cdd3a669afd… (all of the seat's roots in one cut). By AI agents, Wed Nov 11 2026. No macro, syntax, notation, axiom, sorry.
-/
import Derived.Test.YtobleaodacnpiaaChecked
import GoSem.Claim
import GoSem.ClaimJoined
import GoSem.ClaimMapViews
import Derived.JoinedTies
import Derived.KernelRfl
namespace Go.Proofs.Ytobleaodacnpiaa
/- THE CELL 'sum', in the pinned program and in every row, IS THE sha256 OF THE DUMP (.gsa) THAT YtobleaodacnpiaaProg.lean LOADS. Nothing in Lean hashes anything: it is a label: what it is worth is what the hold of that sum in a sandbox is worth. -/
noncomputable def Try.pinned : Pinned := { name := "ytobleaodacnpiaa", sum := "365a8cdd3a669afda301fe894b07cdce6903a171a9f81d31bb3a6c52d2827fe8", checked := Try.checked }
namespace Rows
def none {H : Type} : Left H := { results := [], args := [] }

/-- 'retconlaw14.ExtentMoves': WHATEVER THE INPUT: true; the input reads as it did. -/
def extentMovesSpec : ChangeSpec := { name := "extentMoves", fn := fun _ => fun
  | [d1, d2, d3] => { results := [.lit (.bool true)], args := [d1, d2, d3] }
  | _ => none }
def extentMovesRow : OpenClaim := { program := "ytobleaodacnpiaa", sum := "365a8cdd3a669afda301fe894b07cdce6903a171a9f81d31bb3a6c52d2827fe8", func := "retcon/retconlaw14.ExtentMoves", spec := "extentMoves", inPlace := ["slices.overlaps[retcon/api.Extent]"], unfollowed := true, recurses := true, apart := false }
def ExtentMovesSaid : Prop := extentMovesRow.holds Try.pinned (OpenSpec.ofChange extentMovesSpec)

/-- ITS FALSE NEIGHBOUR: 'it returns false'. Refute it at one input. -/
def extentMovesWrong : ChangeSpec := { name := "extentMoves", fn := fun _ => fun
  | [d1, d2, d3] => { results := [.lit (.bool false)], args := [d1, d2, d3] }
  | _ => none }
def ExtentMovesWrongFalsely : Prop := extentMovesRow.holds Try.pinned (OpenSpec.ofChange extentMovesWrong)

/-- 'retconlaw14.ExtentTells': WHATEVER THE INPUT: true; the input reads as it did. -/
def extentTellsSpec : ChangeSpec := { name := "extentTells", fn := fun _ => fun
  | [d1, d2] => { results := [.lit (.bool true)], args := [d1, d2] }
  | _ => none }
def extentTellsRow : OpenClaim := { program := "ytobleaodacnpiaa", sum := "365a8cdd3a669afda301fe894b07cdce6903a171a9f81d31bb3a6c52d2827fe8", func := "retcon/retconlaw14.ExtentTells", spec := "extentTells", inPlace := ["slices.overlaps[retcon/api.Extent]"], unfollowed := true, recurses := true, apart := false }
def ExtentTellsSaid : Prop := extentTellsRow.holds Try.pinned (OpenSpec.ofChange extentTellsSpec)

/-- ITS FALSE NEIGHBOUR: 'it returns false'. Refute it at one input. -/
def extentTellsWrong : ChangeSpec := { name := "extentTells", fn := fun _ => fun
  | [d1, d2] => { results := [.lit (.bool false)], args := [d1, d2] }
  | _ => none }
def ExtentTellsWrongFalsely : Prop := extentTellsRow.holds Try.pinned (OpenSpec.ofChange extentTellsWrong)

/-- 'retconlaw14.ExtentKnown': WHATEVER THE INPUT: true; the input reads as it did. -/
def extentKnownSpec : ChangeSpec := { name := "extentKnown", fn := fun _ => fun
  | [] => { results := [.lit (.bool true)], args := [] }
  | _ => none }
def extentKnownRow : OpenClaim := { program := "ytobleaodacnpiaa", sum := "365a8cdd3a669afda301fe894b07cdce6903a171a9f81d31bb3a6c52d2827fe8", func := "retcon/retconlaw14.ExtentKnown", spec := "extentKnown", inPlace := ["slices.overlaps[retcon/api.Extent]"], unfollowed := true, recurses := true, apart := false }
def ExtentKnownSaid : Prop := extentKnownRow.holds Try.pinned (OpenSpec.ofChange extentKnownSpec)

/-- ITS FALSE NEIGHBOUR: 'it returns false'. Refute it at one input. -/
def extentKnownWrong : ChangeSpec := { name := "extentKnown", fn := fun _ => fun
  | [] => { results := [.lit (.bool false)], args := [] }
  | _ => none }
def ExtentKnownWrongFalsely : Prop := extentKnownRow.holds Try.pinned (OpenSpec.ofChange extentKnownWrong)

/-- 'retconlaw14.ExtentBack': WHATEVER THE INPUT: true; the input reads as it did. -/
def extentBackSpec : ChangeSpec := { name := "extentBack", fn := fun _ => fun
  | [d1, d2, d3] => { results := [.lit (.bool true)], args := [d1, d2, d3] }
  | _ => none }
def extentBackRow : OpenClaim := { program := "ytobleaodacnpiaa", sum := "365a8cdd3a669afda301fe894b07cdce6903a171a9f81d31bb3a6c52d2827fe8", func := "retcon/retconlaw14.ExtentBack", spec := "extentBack", inPlace := ["slices.overlaps[retcon/api.Extent]"], unfollowed := true, recurses := true, apart := false }
def ExtentBackSaid : Prop := extentBackRow.holds Try.pinned (OpenSpec.ofChange extentBackSpec)

/-- ITS FALSE NEIGHBOUR: 'it returns false'. Refute it at one input. -/
def extentBackWrong : ChangeSpec := { name := "extentBack", fn := fun _ => fun
  | [d1, d2, d3] => { results := [.lit (.bool false)], args := [d1, d2, d3] }
  | _ => none }
def ExtentBackWrongFalsely : Prop := extentBackRow.holds Try.pinned (OpenSpec.ofChange extentBackWrong)

/-- 'retconlaw14.ExtentOrder': WHATEVER THE INPUT: true; the input reads as it did. -/
def extentOrderSpec : ChangeSpec := { name := "extentOrder", fn := fun _ => fun
  | [d] => { results := [.lit (.bool true)], args := [d] }
  | _ => none }
def extentOrderRow : OpenClaim := { program := "ytobleaodacnpiaa", sum := "365a8cdd3a669afda301fe894b07cdce6903a171a9f81d31bb3a6c52d2827fe8", func := "retcon/retconlaw14.ExtentOrder", spec := "extentOrder", inPlace := ["slices.overlaps[retcon/api.Extent]"], unfollowed := true, recurses := true, apart := false }
def ExtentOrderSaid : Prop := extentOrderRow.holds Try.pinned (OpenSpec.ofChange extentOrderSpec)

/-- ITS FALSE NEIGHBOUR: 'it returns false'. Refute it at one input. -/
def extentOrderWrong : ChangeSpec := { name := "extentOrder", fn := fun _ => fun
  | [d] => { results := [.lit (.bool false)], args := [d] }
  | _ => none }
def ExtentOrderWrongFalsely : Prop := extentOrderRow.holds Try.pinned (OpenSpec.ofChange extentOrderWrong)

/- THE SECOND FORM. 'bulk': how many values and letters a reading holds, each counted each time it is reached (what is shared counts as often as it is met; a slice's spare places count too). A statement '..UptoSaid' is the law's where the arguments, and the package variables that the reading takes, are together of bulk at most 1048576: NARROWER than '..Said'. Prove '..Said' where nothing that the law and all that it calls make is longer than what came in: it says more and counts as full. Else prove '..UptoSaid'. A law counts once. -/
mutual
def uptoBulk {H : Type} : DataW H → Nat
  | .lit (.string bytes) => bytes.length + 1
  | .lit _ => 1
  | .nil => 1
  | .ptr d => uptoBulk d + 1
  | .slice elems spare => uptoBulkAll elems + uptoBulkAll spare + 1
  | .agg parts => uptoBulkAll parts + 1
  | .iface _ d => uptoBulk d + 1
  | .map entries => uptoBulkEntries entries + 1
  | .held _ => 1
def uptoBulkAll {H : Type} : List (DataW H) → Nat
  | [] => 0
  | d :: r => uptoBulk d + uptoBulkAll r
def uptoBulkEntries {H : Type} : List (Lit × DataW H) → Nat
  | [] => 0
  | x :: r => uptoBulkEntry x + uptoBulkEntries r
def uptoBulkEntry {H : Type} : Lit × DataW H → Nat
  | (.string bytes, d) => bytes.length + uptoBulk d + 1
  | (_, d) => uptoBulk d + 1
 end
def uptoSmall : (H : Type) → List (DataW H) → Bool := fun _ ds => decide (uptoBulkAll ds ≤ 1048576)
def OpenSpec.upto (s : _root_.Go.ChangeSpec) : _root_.Go.OpenSpec := { _root_.Go.OpenSpec.ofChange s with cond := some uptoSmall }

/-- 'retconlaw14.ExtentMoves', WHERE WHAT IT READS IS OF BULK AT MOST 1048576: true; the input reads as it did. -/
def extentMovesUptoRow : OpenClaim := { program := "ytobleaodacnpiaa", sum := "365a8cdd3a669afda301fe894b07cdce6903a171a9f81d31bb3a6c52d2827fe8", func := "retcon/retconlaw14.ExtentMoves", spec := "extentMoves", inPlace := ["slices.overlaps[retcon/api.Extent]"], unfollowed := true, recurses := true, apart := false, narrowed := true }
def ExtentMovesUptoSaid : Prop := extentMovesUptoRow.holds Try.pinned (OpenSpec.upto extentMovesSpec)

/-- 'retconlaw14.ExtentTells', WHERE WHAT IT READS IS OF BULK AT MOST 1048576: true; the input reads as it did. -/
def extentTellsUptoRow : OpenClaim := { program := "ytobleaodacnpiaa", sum := "365a8cdd3a669afda301fe894b07cdce6903a171a9f81d31bb3a6c52d2827fe8", func := "retcon/retconlaw14.ExtentTells", spec := "extentTells", inPlace := ["slices.overlaps[retcon/api.Extent]"], unfollowed := true, recurses := true, apart := false, narrowed := true }
def ExtentTellsUptoSaid : Prop := extentTellsUptoRow.holds Try.pinned (OpenSpec.upto extentTellsSpec)

/-- 'retconlaw14.ExtentKnown', WHERE WHAT IT READS IS OF BULK AT MOST 1048576: true; the input reads as it did. -/
def extentKnownUptoRow : OpenClaim := { program := "ytobleaodacnpiaa", sum := "365a8cdd3a669afda301fe894b07cdce6903a171a9f81d31bb3a6c52d2827fe8", func := "retcon/retconlaw14.ExtentKnown", spec := "extentKnown", inPlace := ["slices.overlaps[retcon/api.Extent]"], unfollowed := true, recurses := true, apart := false, narrowed := true }
def ExtentKnownUptoSaid : Prop := extentKnownUptoRow.holds Try.pinned (OpenSpec.upto extentKnownSpec)

/-- 'retconlaw14.ExtentBack', WHERE WHAT IT READS IS OF BULK AT MOST 1048576: true; the input reads as it did. -/
def extentBackUptoRow : OpenClaim := { program := "ytobleaodacnpiaa", sum := "365a8cdd3a669afda301fe894b07cdce6903a171a9f81d31bb3a6c52d2827fe8", func := "retcon/retconlaw14.ExtentBack", spec := "extentBack", inPlace := ["slices.overlaps[retcon/api.Extent]"], unfollowed := true, recurses := true, apart := false, narrowed := true }
def ExtentBackUptoSaid : Prop := extentBackUptoRow.holds Try.pinned (OpenSpec.upto extentBackSpec)

/-- 'retconlaw14.ExtentOrder', WHERE WHAT IT READS IS OF BULK AT MOST 1048576: true; the input reads as it did. -/
def extentOrderUptoRow : OpenClaim := { program := "ytobleaodacnpiaa", sum := "365a8cdd3a669afda301fe894b07cdce6903a171a9f81d31bb3a6c52d2827fe8", func := "retcon/retconlaw14.ExtentOrder", spec := "extentOrder", inPlace := ["slices.overlaps[retcon/api.Extent]"], unfollowed := true, recurses := true, apart := false, narrowed := true }
def ExtentOrderUptoSaid : Prop := extentOrderUptoRow.holds Try.pinned (OpenSpec.upto extentOrderSpec)

end Rows
end Go.Proofs.Ytobleaodacnpiaa
