/-
  No cell of these rows narrows 'for every input' (looked for: loops, veiled, ifaces, maps, wideKeys, modest, calm, conditions, laid).
  DERIVED. THE GIVEN ROWS OF THIS SEAT. 5 by the template 'for every input the law returns true; each argument reads behind the call as it read before'; 0 by the template 'total and deterministic' (their statements: YtgflghnbpbiakaaTotals.lean).
  GIVEN WITH THE SEED: the statements are not yours to turn. If you find one false, say at which input.
  Laid BY PROGRAM, IN A SANDBOX (cutbox-rows.mjs): the forced cells as the released guide's own fill.sh prints them over the translation f1131762fb3ea91c… (all of the seat's roots in one cut). By AI agents, Wed Nov 11 2026. No macro, syntax, notation, axiom, sorry.
-/
import Derived.Test.YtgflghnbpbiakaaChecked
import GoSem.Claim
import GoSem.ClaimJoined
import GoSem.ClaimMapViews
import Derived.JoinedTies
import Derived.KernelRfl
namespace Go.Proofs.Ytgflghnbpbiakaa
/- THE CELL 'sum', in the pinned program and in every row, IS THE sha256 OF THE DUMP (.gsa) THAT YtgflghnbpbiakaaProg.lean LOADS. Nothing in Lean hashes anything: it is a label: what it is worth is what the hold of that sum in a sandbox is worth. -/
noncomputable def Try.pinned : Pinned := { name := "ytgflghnbpbiakaa", sum := "f1131762fb3ea91c8892ddc00a03f78e55263067afe65e1d7e4055f76384ceae", checked := Try.checked }
namespace Rows
def none {H : Type} : Left H := { results := [], args := [] }

/-- 'retconlaw13.SuperPacks': WHATEVER THE INPUT: true; the input reads as it did. -/
def superPacksSpec : ChangeSpec := { name := "superPacks", fn := fun _ => fun
  | [d1, d2] => { results := [.lit (.bool true)], args := [d1, d2] }
  | _ => none }
def superPacksRow : OpenClaim := { program := "ytgflghnbpbiakaa", sum := "f1131762fb3ea91c8892ddc00a03f78e55263067afe65e1d7e4055f76384ceae", func := "retcon/retconlaw13.SuperPacks", spec := "superPacks", unfollowed := true, recurses := true, apart := false }
def SuperPacksSaid : Prop := superPacksRow.holds Try.pinned (OpenSpec.ofChange superPacksSpec)

/-- ITS FALSE NEIGHBOUR: 'it returns false'. Refute it at one input. -/
def superPacksWrong : ChangeSpec := { name := "superPacks", fn := fun _ => fun
  | [d1, d2] => { results := [.lit (.bool false)], args := [d1, d2] }
  | _ => none }
def SuperPacksWrongFalsely : Prop := superPacksRow.holds Try.pinned (OpenSpec.ofChange superPacksWrong)

/-- 'retconlaw13.SuperNone': WHATEVER THE INPUT: true; the input reads as it did. -/
def superNoneSpec : ChangeSpec := { name := "superNone", fn := fun _ => fun
  | [d] => { results := [.lit (.bool true)], args := [d] }
  | _ => none }
def superNoneRow : OpenClaim := { program := "ytgflghnbpbiakaa", sum := "f1131762fb3ea91c8892ddc00a03f78e55263067afe65e1d7e4055f76384ceae", func := "retcon/retconlaw13.SuperNone", spec := "superNone", unfollowed := true, recurses := true, apart := false }
def SuperNoneSaid : Prop := superNoneRow.holds Try.pinned (OpenSpec.ofChange superNoneSpec)

/-- ITS FALSE NEIGHBOUR: 'it returns false'. Refute it at one input. -/
def superNoneWrong : ChangeSpec := { name := "superNone", fn := fun _ => fun
  | [d] => { results := [.lit (.bool false)], args := [d] }
  | _ => none }
def SuperNoneWrongFalsely : Prop := superNoneRow.holds Try.pinned (OpenSpec.ofChange superNoneWrong)

/-- 'retconlaw13.SuperKnown': WHATEVER THE INPUT: true; the input reads as it did. -/
def superKnownSpec : ChangeSpec := { name := "superKnown", fn := fun _ => fun
  | [] => { results := [.lit (.bool true)], args := [] }
  | _ => none }
def superKnownRow : OpenClaim := { program := "ytgflghnbpbiakaa", sum := "f1131762fb3ea91c8892ddc00a03f78e55263067afe65e1d7e4055f76384ceae", func := "retcon/retconlaw13.SuperKnown", spec := "superKnown", unfollowed := true, recurses := true, apart := false }
def SuperKnownSaid : Prop := superKnownRow.holds Try.pinned (OpenSpec.ofChange superKnownSpec)

/-- ITS FALSE NEIGHBOUR: 'it returns false'. Refute it at one input. -/
def superKnownWrong : ChangeSpec := { name := "superKnown", fn := fun _ => fun
  | [] => { results := [.lit (.bool false)], args := [] }
  | _ => none }
def SuperKnownWrongFalsely : Prop := superKnownRow.holds Try.pinned (OpenSpec.ofChange superKnownWrong)

/-- 'retconlaw13.SuperBack': WHATEVER THE INPUT: true; the input reads as it did. -/
def superBackSpec : ChangeSpec := { name := "superBack", fn := fun _ => fun
  | [d1, d2] => { results := [.lit (.bool true)], args := [d1, d2] }
  | _ => none }
def superBackRow : OpenClaim := { program := "ytgflghnbpbiakaa", sum := "f1131762fb3ea91c8892ddc00a03f78e55263067afe65e1d7e4055f76384ceae", func := "retcon/retconlaw13.SuperBack", spec := "superBack", unfollowed := true, recurses := true, apart := false }
def SuperBackSaid : Prop := superBackRow.holds Try.pinned (OpenSpec.ofChange superBackSpec)

/-- ITS FALSE NEIGHBOUR: 'it returns false'. Refute it at one input. -/
def superBackWrong : ChangeSpec := { name := "superBack", fn := fun _ => fun
  | [d1, d2] => { results := [.lit (.bool false)], args := [d1, d2] }
  | _ => none }
def SuperBackWrongFalsely : Prop := superBackRow.holds Try.pinned (OpenSpec.ofChange superBackWrong)

/-- 'retconlaw13.SuperScript': WHATEVER THE INPUT: true; the input reads as it did. -/
def superScriptSpec : ChangeSpec := { name := "superScript", fn := fun _ => fun
  | [d1, d2] => { results := [.lit (.bool true)], args := [d1, d2] }
  | _ => none }
def superScriptRow : OpenClaim := { program := "ytgflghnbpbiakaa", sum := "f1131762fb3ea91c8892ddc00a03f78e55263067afe65e1d7e4055f76384ceae", func := "retcon/retconlaw13.SuperScript", spec := "superScript", unfollowed := true, recurses := true, apart := false }
def SuperScriptSaid : Prop := superScriptRow.holds Try.pinned (OpenSpec.ofChange superScriptSpec)

/-- ITS FALSE NEIGHBOUR: 'it returns false'. Refute it at one input. -/
def superScriptWrong : ChangeSpec := { name := "superScript", fn := fun _ => fun
  | [d1, d2] => { results := [.lit (.bool false)], args := [d1, d2] }
  | _ => none }
def SuperScriptWrongFalsely : Prop := superScriptRow.holds Try.pinned (OpenSpec.ofChange superScriptWrong)

/- THE SECOND FORM. 'bulk': how many values and letters a reading holds, each counted each time it is reached (what is shared counts as often as it is met; a slice's spare places count too). A statement '..UptoSaid' is the law's where the arguments, and the package variables that the reading takes, are together of bulk at most 1048576: NARROWER than '..Said'. Prove '..Said' where nothing that the law and all that it calls make is longer than what came in: it says more and counts as full. Else prove '..UptoSaid'. A law counts once. -/
mutual
def uptoBulk {H : Type} : DataW H → Nat
  | .lit (.string bytes) => bytes.length + 1
  | .lit _ => 1
  | .nil => 1
  | .ptr d => uptoBulk d + 1
  | .slice elems spare => uptoBulkAll elems + uptoBulkAll spare + 1
  | .agg parts => uptoBulkAll parts + 1
  | .iface _ d => uptoBulk d + 1
  | .map entries => uptoBulkEntries entries + 1
  | .held _ => 1
def uptoBulkAll {H : Type} : List (DataW H) → Nat
  | [] => 0
  | d :: r => uptoBulk d + uptoBulkAll r
def uptoBulkEntries {H : Type} : List (Lit × DataW H) → Nat
  | [] => 0
  | x :: r => uptoBulkEntry x + uptoBulkEntries r
def uptoBulkEntry {H : Type} : Lit × DataW H → Nat
  | (.string bytes, d) => bytes.length + uptoBulk d + 1
  | (_, d) => uptoBulk d + 1
 end
def uptoSmall : (H : Type) → List (DataW H) → Bool := fun _ ds => decide (uptoBulkAll ds ≤ 1048576)
def OpenSpec.upto (s : _root_.Go.ChangeSpec) : _root_.Go.OpenSpec := { _root_.Go.OpenSpec.ofChange s with cond := some uptoSmall }

/-- 'retconlaw13.SuperPacks', WHERE WHAT IT READS IS OF BULK AT MOST 1048576: true; the input reads as it did. -/
def superPacksUptoRow : OpenClaim := { program := "ytgflghnbpbiakaa", sum := "f1131762fb3ea91c8892ddc00a03f78e55263067afe65e1d7e4055f76384ceae", func := "retcon/retconlaw13.SuperPacks", spec := "superPacks", unfollowed := true, recurses := true, apart := false, narrowed := true }
def SuperPacksUptoSaid : Prop := superPacksUptoRow.holds Try.pinned (OpenSpec.upto superPacksSpec)

/-- 'retconlaw13.SuperNone', WHERE WHAT IT READS IS OF BULK AT MOST 1048576: true; the input reads as it did. -/
def superNoneUptoRow : OpenClaim := { program := "ytgflghnbpbiakaa", sum := "f1131762fb3ea91c8892ddc00a03f78e55263067afe65e1d7e4055f76384ceae", func := "retcon/retconlaw13.SuperNone", spec := "superNone", unfollowed := true, recurses := true, apart := false, narrowed := true }
def SuperNoneUptoSaid : Prop := superNoneUptoRow.holds Try.pinned (OpenSpec.upto superNoneSpec)

/-- 'retconlaw13.SuperKnown', WHERE WHAT IT READS IS OF BULK AT MOST 1048576: true; the input reads as it did. -/
def superKnownUptoRow : OpenClaim := { program := "ytgflghnbpbiakaa", sum := "f1131762fb3ea91c8892ddc00a03f78e55263067afe65e1d7e4055f76384ceae", func := "retcon/retconlaw13.SuperKnown", spec := "superKnown", unfollowed := true, recurses := true, apart := false, narrowed := true }
def SuperKnownUptoSaid : Prop := superKnownUptoRow.holds Try.pinned (OpenSpec.upto superKnownSpec)

/-- 'retconlaw13.SuperBack', WHERE WHAT IT READS IS OF BULK AT MOST 1048576: true; the input reads as it did. -/
def superBackUptoRow : OpenClaim := { program := "ytgflghnbpbiakaa", sum := "f1131762fb3ea91c8892ddc00a03f78e55263067afe65e1d7e4055f76384ceae", func := "retcon/retconlaw13.SuperBack", spec := "superBack", unfollowed := true, recurses := true, apart := false, narrowed := true }
def SuperBackUptoSaid : Prop := superBackUptoRow.holds Try.pinned (OpenSpec.upto superBackSpec)

/-- 'retconlaw13.SuperScript', WHERE WHAT IT READS IS OF BULK AT MOST 1048576: true; the input reads as it did. -/
def superScriptUptoRow : OpenClaim := { program := "ytgflghnbpbiakaa", sum := "f1131762fb3ea91c8892ddc00a03f78e55263067afe65e1d7e4055f76384ceae", func := "retcon/retconlaw13.SuperScript", spec := "superScript", unfollowed := true, recurses := true, apart := false, narrowed := true }
def SuperScriptUptoSaid : Prop := superScriptUptoRow.holds Try.pinned (OpenSpec.upto superScriptSpec)

end Rows
end Go.Proofs.Ytgflghnbpbiakaa
