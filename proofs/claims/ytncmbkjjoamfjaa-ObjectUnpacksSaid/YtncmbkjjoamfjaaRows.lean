/-
  No cell of these rows narrows 'for every input' (looked for: loops, veiled, ifaces, maps, wideKeys, modest, calm, conditions, laid).
  DERIVED. THE GIVEN ROWS OF THIS SEAT. 5 by the template 'for every input the law returns true; each argument reads behind the call as it read before'; 0 by the template 'total and deterministic' (their statements: YtncmbkjjoamfjaaTotals.lean).
  GIVEN WITH THE SEED: the statements are not yours to turn. If you find one false, say at which input.
  Laid BY PROGRAM, IN A SANDBOX (cutbox-rows.mjs): the forced cells as the released guide's own fill.sh prints them over the translation 02c1aef055d6ba94… (all of the seat's roots in one cut). By AI agents, Wed Nov 11 2026. No macro, syntax, notation, axiom, sorry.
-/
import Derived.Test.YtncmbkjjoamfjaaChecked
import GoSem.Claim
import GoSem.ClaimJoined
import GoSem.ClaimMapViews
import Derived.JoinedTies
import Derived.KernelRfl
namespace Go.Proofs.Ytncmbkjjoamfjaa
/- THE CELL 'sum', in the pinned program and in every row, IS THE sha256 OF THE DUMP (.gsa) THAT YtncmbkjjoamfjaaProg.lean LOADS. Nothing in Lean hashes anything: it is a label: what it is worth is what the hold of that sum in a sandbox is worth. -/
noncomputable def Try.pinned : Pinned := { name := "ytncmbkjjoamfjaa", sum := "02c1aef055d6ba9438e57e41af08cb31403017e40db5f5634ae7ed2303789b6d", checked := Try.checked }
namespace Rows
def none {H : Type} : Left H := { results := [], args := [] }

/-- 'retconlaw15.ObjectPacks': WHATEVER THE INPUT: true; the input reads as it did. -/
def objectPacksSpec : ChangeSpec := { name := "objectPacks", fn := fun _ => fun
  | [d1, d2, d3, d4] => { results := [.lit (.bool true)], args := [d1, d2, d3, d4] }
  | _ => none }
def objectPacksRow : OpenClaim := { program := "ytncmbkjjoamfjaa", sum := "02c1aef055d6ba9438e57e41af08cb31403017e40db5f5634ae7ed2303789b6d", func := "retcon/retconlaw15.ObjectPacks", spec := "objectPacks", apart := false }
def ObjectPacksSaid : Prop := objectPacksRow.holds Try.pinned (OpenSpec.ofChange objectPacksSpec)

/-- ITS FALSE NEIGHBOUR: 'it returns false'. Refute it at one input. -/
def objectPacksWrong : ChangeSpec := { name := "objectPacks", fn := fun _ => fun
  | [d1, d2, d3, d4] => { results := [.lit (.bool false)], args := [d1, d2, d3, d4] }
  | _ => none }
def ObjectPacksWrongFalsely : Prop := objectPacksRow.holds Try.pinned (OpenSpec.ofChange objectPacksWrong)

/-- 'retconlaw15.ObjectUnpacks': WHATEVER THE INPUT: true; the input reads as it did. -/
def objectUnpacksSpec : ChangeSpec := { name := "objectUnpacks", fn := fun _ => fun
  | [d] => { results := [.lit (.bool true)], args := [d] }
  | _ => none }
def objectUnpacksRow : OpenClaim := { program := "ytncmbkjjoamfjaa", sum := "02c1aef055d6ba9438e57e41af08cb31403017e40db5f5634ae7ed2303789b6d", func := "retcon/retconlaw15.ObjectUnpacks", spec := "objectUnpacks", apart := false }
def ObjectUnpacksSaid : Prop := objectUnpacksRow.holds Try.pinned (OpenSpec.ofChange objectUnpacksSpec)

/-- ITS FALSE NEIGHBOUR: 'it returns false'. Refute it at one input. -/
def objectUnpacksWrong : ChangeSpec := { name := "objectUnpacks", fn := fun _ => fun
  | [d] => { results := [.lit (.bool false)], args := [d] }
  | _ => none }
def ObjectUnpacksWrongFalsely : Prop := objectUnpacksRow.holds Try.pinned (OpenSpec.ofChange objectUnpacksWrong)

/-- 'retconlaw15.ObjectKnown': WHATEVER THE INPUT: true; the input reads as it did. -/
def objectKnownSpec : ChangeSpec := { name := "objectKnown", fn := fun _ => fun
  | [] => { results := [.lit (.bool true)], args := [] }
  | _ => none }
def objectKnownRow : OpenClaim := { program := "ytncmbkjjoamfjaa", sum := "02c1aef055d6ba9438e57e41af08cb31403017e40db5f5634ae7ed2303789b6d", func := "retcon/retconlaw15.ObjectKnown", spec := "objectKnown", apart := false }
def ObjectKnownSaid : Prop := objectKnownRow.holds Try.pinned (OpenSpec.ofChange objectKnownSpec)

/-- ITS FALSE NEIGHBOUR: 'it returns false'. Refute it at one input. -/
def objectKnownWrong : ChangeSpec := { name := "objectKnown", fn := fun _ => fun
  | [] => { results := [.lit (.bool false)], args := [] }
  | _ => none }
def ObjectKnownWrongFalsely : Prop := objectKnownRow.holds Try.pinned (OpenSpec.ofChange objectKnownWrong)

/-- 'retconlaw15.ObjectBack': WHATEVER THE INPUT: true; the input reads as it did. -/
def objectBackSpec : ChangeSpec := { name := "objectBack", fn := fun _ => fun
  | [d1, d2, d3] => { results := [.lit (.bool true)], args := [d1, d2, d3] }
  | _ => none }
def objectBackRow : OpenClaim := { program := "ytncmbkjjoamfjaa", sum := "02c1aef055d6ba9438e57e41af08cb31403017e40db5f5634ae7ed2303789b6d", func := "retcon/retconlaw15.ObjectBack", spec := "objectBack", apart := false }
def ObjectBackSaid : Prop := objectBackRow.holds Try.pinned (OpenSpec.ofChange objectBackSpec)

/-- ITS FALSE NEIGHBOUR: 'it returns false'. Refute it at one input. -/
def objectBackWrong : ChangeSpec := { name := "objectBack", fn := fun _ => fun
  | [d1, d2, d3] => { results := [.lit (.bool false)], args := [d1, d2, d3] }
  | _ => none }
def ObjectBackWrongFalsely : Prop := objectBackRow.holds Try.pinned (OpenSpec.ofChange objectBackWrong)

/-- 'retconlaw15.ObjectTurned': WHATEVER THE INPUT: true; the input reads as it did. -/
def objectTurnedSpec : ChangeSpec := { name := "objectTurned", fn := fun _ => fun
  | [d1, d2, d3, d4] => { results := [.lit (.bool true)], args := [d1, d2, d3, d4] }
  | _ => none }
def objectTurnedRow : OpenClaim := { program := "ytncmbkjjoamfjaa", sum := "02c1aef055d6ba9438e57e41af08cb31403017e40db5f5634ae7ed2303789b6d", func := "retcon/retconlaw15.ObjectTurned", spec := "objectTurned", apart := false }
def ObjectTurnedSaid : Prop := objectTurnedRow.holds Try.pinned (OpenSpec.ofChange objectTurnedSpec)

/-- ITS FALSE NEIGHBOUR: 'it returns false'. Refute it at one input. -/
def objectTurnedWrong : ChangeSpec := { name := "objectTurned", fn := fun _ => fun
  | [d1, d2, d3, d4] => { results := [.lit (.bool false)], args := [d1, d2, d3, d4] }
  | _ => none }
def ObjectTurnedWrongFalsely : Prop := objectTurnedRow.holds Try.pinned (OpenSpec.ofChange objectTurnedWrong)

/- THE SECOND FORM. 'bulk': how many values and letters a reading holds, each counted each time it is reached (what is shared counts as often as it is met; a slice's spare places count too). A statement '..UptoSaid' is the law's where the arguments, and the package variables that the reading takes, are together of bulk at most 1048576: NARROWER than '..Said'. Prove '..Said' where nothing that the law and all that it calls make is longer than what came in: it says more and counts as full. Else prove '..UptoSaid'. A law counts once. -/
mutual
def uptoBulk {H : Type} : DataW H → Nat
  | .lit (.string bytes) => bytes.length + 1
  | .lit _ => 1
  | .nil => 1
  | .ptr d => uptoBulk d + 1
  | .slice elems spare => uptoBulkAll elems + uptoBulkAll spare + 1
  | .agg parts => uptoBulkAll parts + 1
  | .iface _ d => uptoBulk d + 1
  | .map entries => uptoBulkEntries entries + 1
  | .held _ => 1
def uptoBulkAll {H : Type} : List (DataW H) → Nat
  | [] => 0
  | d :: r => uptoBulk d + uptoBulkAll r
def uptoBulkEntries {H : Type} : List (Lit × DataW H) → Nat
  | [] => 0
  | x :: r => uptoBulkEntry x + uptoBulkEntries r
def uptoBulkEntry {H : Type} : Lit × DataW H → Nat
  | (.string bytes, d) => bytes.length + uptoBulk d + 1
  | (_, d) => uptoBulk d + 1
 end
def uptoSmall : (H : Type) → List (DataW H) → Bool := fun _ ds => decide (uptoBulkAll ds ≤ 1048576)
def OpenSpec.upto (s : _root_.Go.ChangeSpec) : _root_.Go.OpenSpec := { _root_.Go.OpenSpec.ofChange s with cond := some uptoSmall }

/-- 'retconlaw15.ObjectPacks', WHERE WHAT IT READS IS OF BULK AT MOST 1048576: true; the input reads as it did. -/
def objectPacksUptoRow : OpenClaim := { program := "ytncmbkjjoamfjaa", sum := "02c1aef055d6ba9438e57e41af08cb31403017e40db5f5634ae7ed2303789b6d", func := "retcon/retconlaw15.ObjectPacks", spec := "objectPacks", apart := false, narrowed := true }
def ObjectPacksUptoSaid : Prop := objectPacksUptoRow.holds Try.pinned (OpenSpec.upto objectPacksSpec)

/-- 'retconlaw15.ObjectUnpacks', WHERE WHAT IT READS IS OF BULK AT MOST 1048576: true; the input reads as it did. -/
def objectUnpacksUptoRow : OpenClaim := { program := "ytncmbkjjoamfjaa", sum := "02c1aef055d6ba9438e57e41af08cb31403017e40db5f5634ae7ed2303789b6d", func := "retcon/retconlaw15.ObjectUnpacks", spec := "objectUnpacks", apart := false, narrowed := true }
def ObjectUnpacksUptoSaid : Prop := objectUnpacksUptoRow.holds Try.pinned (OpenSpec.upto objectUnpacksSpec)

/-- 'retconlaw15.ObjectKnown', WHERE WHAT IT READS IS OF BULK AT MOST 1048576: true; the input reads as it did. -/
def objectKnownUptoRow : OpenClaim := { program := "ytncmbkjjoamfjaa", sum := "02c1aef055d6ba9438e57e41af08cb31403017e40db5f5634ae7ed2303789b6d", func := "retcon/retconlaw15.ObjectKnown", spec := "objectKnown", apart := false, narrowed := true }
def ObjectKnownUptoSaid : Prop := objectKnownUptoRow.holds Try.pinned (OpenSpec.upto objectKnownSpec)

/-- 'retconlaw15.ObjectBack', WHERE WHAT IT READS IS OF BULK AT MOST 1048576: true; the input reads as it did. -/
def objectBackUptoRow : OpenClaim := { program := "ytncmbkjjoamfjaa", sum := "02c1aef055d6ba9438e57e41af08cb31403017e40db5f5634ae7ed2303789b6d", func := "retcon/retconlaw15.ObjectBack", spec := "objectBack", apart := false, narrowed := true }
def ObjectBackUptoSaid : Prop := objectBackUptoRow.holds Try.pinned (OpenSpec.upto objectBackSpec)

/-- 'retconlaw15.ObjectTurned', WHERE WHAT IT READS IS OF BULK AT MOST 1048576: true; the input reads as it did. -/
def objectTurnedUptoRow : OpenClaim := { program := "ytncmbkjjoamfjaa", sum := "02c1aef055d6ba9438e57e41af08cb31403017e40db5f5634ae7ed2303789b6d", func := "retcon/retconlaw15.ObjectTurned", spec := "objectTurned", apart := false, narrowed := true }
def ObjectTurnedUptoSaid : Prop := objectTurnedUptoRow.holds Try.pinned (OpenSpec.upto objectTurnedSpec)

end Rows
end Go.Proofs.Ytncmbkjjoamfjaa
