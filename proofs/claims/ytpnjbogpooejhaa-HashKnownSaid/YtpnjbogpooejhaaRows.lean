/-
  No cell of these rows narrows 'for every input' (looked for: loops, veiled, ifaces, maps, wideKeys, modest, calm, conditions, laid).
  DERIVED. THE GIVEN ROWS OF THIS SEAT. 7 by the template 'for every input the law returns true; each argument reads behind the call as it read before'; 0 by the template 'total and deterministic' (their statements: YtpnjbogpooejhaaTotals.lean).
  GIVEN WITH THE SEED: the statements are not yours to turn. If you find one false, say at which input.
  Laid BY PROGRAM, IN A SANDBOX (cutbox-rows.mjs): the forced cells as the released guide's own fill.sh prints them over the translation 101402bbcf1e2647… (all of the seat's roots in one cut). By AI agents, Wed Nov 11 2026. No macro, syntax, notation, axiom, sorry.
-/
import Derived.Test.YtpnjbogpooejhaaChecked
import GoSem.Claim
import GoSem.ClaimJoined
import GoSem.ClaimMapViews
import Derived.JoinedTies
import Derived.KernelRfl
namespace Go.Proofs.Ytpnjbogpooejhaa
/- THE CELL 'sum', in the pinned program and in every row, IS THE sha256 OF THE DUMP (.gsa) THAT YtpnjbogpooejhaaProg.lean LOADS. Nothing in Lean hashes anything: it is a label: what it is worth is what the hold of that sum in a sandbox is worth. -/
noncomputable def Try.pinned : Pinned := { name := "ytpnjbogpooejhaa", sum := "101402bbcf1e2647b1dc2268747dfb77b91fdc78a33500f3d8839e1c0ddede26", checked := Try.checked }
namespace Rows
def none {H : Type} : Left H := { results := [], args := [] }

/-- 'retconlaw02.HashSpells': WHATEVER THE INPUT: true; the input reads as it did. -/
def hashSpellsSpec : ChangeSpec := { name := "hashSpells", fn := fun _ => fun
  | [d1, d2] => { results := [.lit (.bool true)], args := [d1, d2] }
  | _ => none }
def hashSpellsRow : OpenClaim := { program := "ytpnjbogpooejhaa", sum := "101402bbcf1e2647b1dc2268747dfb77b91fdc78a33500f3d8839e1c0ddede26", func := "retcon/retconlaw02.HashSpells", spec := "hashSpells", inPlace := ["internal/bytealg.IndexByteString"], apart := false }
def HashSpellsSaid : Prop := hashSpellsRow.holds Try.pinned (OpenSpec.ofChange hashSpellsSpec)

/-- ITS FALSE NEIGHBOUR: 'it returns false'. Refute it at one input. -/
def hashSpellsWrong : ChangeSpec := { name := "hashSpells", fn := fun _ => fun
  | [d1, d2] => { results := [.lit (.bool false)], args := [d1, d2] }
  | _ => none }
def HashSpellsWrongFalsely : Prop := hashSpellsRow.holds Try.pinned (OpenSpec.ofChange hashSpellsWrong)

/-- 'retconlaw02.HashDigit': WHATEVER THE INPUT: true; the input reads as it did. -/
def hashDigitSpec : ChangeSpec := { name := "hashDigit", fn := fun _ => fun
  | [d1, d2, d3] => { results := [.lit (.bool true)], args := [d1, d2, d3] }
  | _ => none }
def hashDigitRow : OpenClaim := { program := "ytpnjbogpooejhaa", sum := "101402bbcf1e2647b1dc2268747dfb77b91fdc78a33500f3d8839e1c0ddede26", func := "retcon/retconlaw02.HashDigit", spec := "hashDigit", inPlace := ["internal/bytealg.IndexByteString"], apart := false }
def HashDigitSaid : Prop := hashDigitRow.holds Try.pinned (OpenSpec.ofChange hashDigitSpec)

/-- ITS FALSE NEIGHBOUR: 'it returns false'. Refute it at one input. -/
def hashDigitWrong : ChangeSpec := { name := "hashDigit", fn := fun _ => fun
  | [d1, d2, d3] => { results := [.lit (.bool false)], args := [d1, d2, d3] }
  | _ => none }
def HashDigitWrongFalsely : Prop := hashDigitRow.holds Try.pinned (OpenSpec.ofChange hashDigitWrong)

/-- 'retconlaw02.HashRank': WHATEVER THE INPUT: true; the input reads as it did. -/
def hashRankSpec : ChangeSpec := { name := "hashRank", fn := fun _ => fun
  | [d1, d2] => { results := [.lit (.bool true)], args := [d1, d2] }
  | _ => none }
def hashRankRow : OpenClaim := { program := "ytpnjbogpooejhaa", sum := "101402bbcf1e2647b1dc2268747dfb77b91fdc78a33500f3d8839e1c0ddede26", func := "retcon/retconlaw02.HashRank", spec := "hashRank", inPlace := ["internal/bytealg.IndexByteString"], apart := false }
def HashRankSaid : Prop := hashRankRow.holds Try.pinned (OpenSpec.ofChange hashRankSpec)

/-- ITS FALSE NEIGHBOUR: 'it returns false'. Refute it at one input. -/
def hashRankWrong : ChangeSpec := { name := "hashRank", fn := fun _ => fun
  | [d1, d2] => { results := [.lit (.bool false)], args := [d1, d2] }
  | _ => none }
def HashRankWrongFalsely : Prop := hashRankRow.holds Try.pinned (OpenSpec.ofChange hashRankWrong)

/-- 'retconlaw02.HashNames': WHATEVER THE INPUT: true; the input reads as it did. -/
def hashNamesSpec : ChangeSpec := { name := "hashNames", fn := fun _ => fun
  | [d] => { results := [.lit (.bool true)], args := [d] }
  | _ => none }
def hashNamesRow : OpenClaim := { program := "ytpnjbogpooejhaa", sum := "101402bbcf1e2647b1dc2268747dfb77b91fdc78a33500f3d8839e1c0ddede26", func := "retcon/retconlaw02.HashNames", spec := "hashNames", inPlace := ["internal/bytealg.IndexByteString"], apart := false }
def HashNamesSaid : Prop := hashNamesRow.holds Try.pinned (OpenSpec.ofChange hashNamesSpec)

/-- ITS FALSE NEIGHBOUR: 'it returns false'. Refute it at one input. -/
def hashNamesWrong : ChangeSpec := { name := "hashNames", fn := fun _ => fun
  | [d] => { results := [.lit (.bool false)], args := [d] }
  | _ => none }
def HashNamesWrongFalsely : Prop := hashNamesRow.holds Try.pinned (OpenSpec.ofChange hashNamesWrong)

/-- 'retconlaw02.HashNobody': WHATEVER THE INPUT: true; the input reads as it did. -/
def hashNobodySpec : ChangeSpec := { name := "hashNobody", fn := fun _ => fun
  | [d] => { results := [.lit (.bool true)], args := [d] }
  | _ => none }
def hashNobodyRow : OpenClaim := { program := "ytpnjbogpooejhaa", sum := "101402bbcf1e2647b1dc2268747dfb77b91fdc78a33500f3d8839e1c0ddede26", func := "retcon/retconlaw02.HashNobody", spec := "hashNobody", inPlace := ["internal/bytealg.IndexByteString"], apart := false }
def HashNobodySaid : Prop := hashNobodyRow.holds Try.pinned (OpenSpec.ofChange hashNobodySpec)

/-- ITS FALSE NEIGHBOUR: 'it returns false'. Refute it at one input. -/
def hashNobodyWrong : ChangeSpec := { name := "hashNobody", fn := fun _ => fun
  | [d] => { results := [.lit (.bool false)], args := [d] }
  | _ => none }
def HashNobodyWrongFalsely : Prop := hashNobodyRow.holds Try.pinned (OpenSpec.ofChange hashNobodyWrong)

/-- 'retconlaw02.HashKnown': WHATEVER THE INPUT: true; the input reads as it did. -/
def hashKnownSpec : ChangeSpec := { name := "hashKnown", fn := fun _ => fun
  | [] => { results := [.lit (.bool true)], args := [] }
  | _ => none }
def hashKnownRow : OpenClaim := { program := "ytpnjbogpooejhaa", sum := "101402bbcf1e2647b1dc2268747dfb77b91fdc78a33500f3d8839e1c0ddede26", func := "retcon/retconlaw02.HashKnown", spec := "hashKnown", inPlace := ["internal/bytealg.IndexByteString"], apart := false }
def HashKnownSaid : Prop := hashKnownRow.holds Try.pinned (OpenSpec.ofChange hashKnownSpec)

/-- ITS FALSE NEIGHBOUR: 'it returns false'. Refute it at one input. -/
def hashKnownWrong : ChangeSpec := { name := "hashKnown", fn := fun _ => fun
  | [] => { results := [.lit (.bool false)], args := [] }
  | _ => none }
def HashKnownWrongFalsely : Prop := hashKnownRow.holds Try.pinned (OpenSpec.ofChange hashKnownWrong)

/-- 'retconlaw02.HashBeside': WHATEVER THE INPUT: true; the input reads as it did. -/
def hashBesideSpec : ChangeSpec := { name := "hashBeside", fn := fun _ => fun
  | [d] => { results := [.lit (.bool true)], args := [d] }
  | _ => none }
def hashBesideRow : OpenClaim := { program := "ytpnjbogpooejhaa", sum := "101402bbcf1e2647b1dc2268747dfb77b91fdc78a33500f3d8839e1c0ddede26", func := "retcon/retconlaw02.HashBeside", spec := "hashBeside", inPlace := ["internal/bytealg.IndexByteString"], apart := false }
def HashBesideSaid : Prop := hashBesideRow.holds Try.pinned (OpenSpec.ofChange hashBesideSpec)

/-- ITS FALSE NEIGHBOUR: 'it returns false'. Refute it at one input. -/
def hashBesideWrong : ChangeSpec := { name := "hashBeside", fn := fun _ => fun
  | [d] => { results := [.lit (.bool false)], args := [d] }
  | _ => none }
def HashBesideWrongFalsely : Prop := hashBesideRow.holds Try.pinned (OpenSpec.ofChange hashBesideWrong)

/- THE SECOND FORM. 'bulk': how many values and letters a reading holds, each counted each time it is reached (what is shared counts as often as it is met; a slice's spare places count too). A statement '..UptoSaid' is the law's where the arguments, and the package variables that the reading takes, are together of bulk at most 1048576: NARROWER than '..Said'. Prove '..Said' where nothing that the law and all that it calls make is longer than what came in: it says more and counts as full. Else prove '..UptoSaid'. A law counts once. -/
mutual
def uptoBulk {H : Type} : DataW H → Nat
  | .lit (.string bytes) => bytes.length + 1
  | .lit _ => 1
  | .nil => 1
  | .ptr d => uptoBulk d + 1
  | .slice elems spare => uptoBulkAll elems + uptoBulkAll spare + 1
  | .agg parts => uptoBulkAll parts + 1
  | .iface _ d => uptoBulk d + 1
  | .map entries => uptoBulkEntries entries + 1
  | .held _ => 1
def uptoBulkAll {H : Type} : List (DataW H) → Nat
  | [] => 0
  | d :: r => uptoBulk d + uptoBulkAll r
def uptoBulkEntries {H : Type} : List (Lit × DataW H) → Nat
  | [] => 0
  | x :: r => uptoBulkEntry x + uptoBulkEntries r
def uptoBulkEntry {H : Type} : Lit × DataW H → Nat
  | (.string bytes, d) => bytes.length + uptoBulk d + 1
  | (_, d) => uptoBulk d + 1
 end
def uptoSmall : (H : Type) → List (DataW H) → Bool := fun _ ds => decide (uptoBulkAll ds ≤ 1048576)
def OpenSpec.upto (s : _root_.Go.ChangeSpec) : _root_.Go.OpenSpec := { _root_.Go.OpenSpec.ofChange s with cond := some uptoSmall }

/-- 'retconlaw02.HashSpells', WHERE WHAT IT READS IS OF BULK AT MOST 1048576: true; the input reads as it did. -/
def hashSpellsUptoRow : OpenClaim := { program := "ytpnjbogpooejhaa", sum := "101402bbcf1e2647b1dc2268747dfb77b91fdc78a33500f3d8839e1c0ddede26", func := "retcon/retconlaw02.HashSpells", spec := "hashSpells", inPlace := ["internal/bytealg.IndexByteString"], apart := false, narrowed := true }
def HashSpellsUptoSaid : Prop := hashSpellsUptoRow.holds Try.pinned (OpenSpec.upto hashSpellsSpec)

/-- 'retconlaw02.HashDigit', WHERE WHAT IT READS IS OF BULK AT MOST 1048576: true; the input reads as it did. -/
def hashDigitUptoRow : OpenClaim := { program := "ytpnjbogpooejhaa", sum := "101402bbcf1e2647b1dc2268747dfb77b91fdc78a33500f3d8839e1c0ddede26", func := "retcon/retconlaw02.HashDigit", spec := "hashDigit", inPlace := ["internal/bytealg.IndexByteString"], apart := false, narrowed := true }
def HashDigitUptoSaid : Prop := hashDigitUptoRow.holds Try.pinned (OpenSpec.upto hashDigitSpec)

/-- 'retconlaw02.HashRank', WHERE WHAT IT READS IS OF BULK AT MOST 1048576: true; the input reads as it did. -/
def hashRankUptoRow : OpenClaim := { program := "ytpnjbogpooejhaa", sum := "101402bbcf1e2647b1dc2268747dfb77b91fdc78a33500f3d8839e1c0ddede26", func := "retcon/retconlaw02.HashRank", spec := "hashRank", inPlace := ["internal/bytealg.IndexByteString"], apart := false, narrowed := true }
def HashRankUptoSaid : Prop := hashRankUptoRow.holds Try.pinned (OpenSpec.upto hashRankSpec)

/-- 'retconlaw02.HashNames', WHERE WHAT IT READS IS OF BULK AT MOST 1048576: true; the input reads as it did. -/
def hashNamesUptoRow : OpenClaim := { program := "ytpnjbogpooejhaa", sum := "101402bbcf1e2647b1dc2268747dfb77b91fdc78a33500f3d8839e1c0ddede26", func := "retcon/retconlaw02.HashNames", spec := "hashNames", inPlace := ["internal/bytealg.IndexByteString"], apart := false, narrowed := true }
def HashNamesUptoSaid : Prop := hashNamesUptoRow.holds Try.pinned (OpenSpec.upto hashNamesSpec)

/-- 'retconlaw02.HashNobody', WHERE WHAT IT READS IS OF BULK AT MOST 1048576: true; the input reads as it did. -/
def hashNobodyUptoRow : OpenClaim := { program := "ytpnjbogpooejhaa", sum := "101402bbcf1e2647b1dc2268747dfb77b91fdc78a33500f3d8839e1c0ddede26", func := "retcon/retconlaw02.HashNobody", spec := "hashNobody", inPlace := ["internal/bytealg.IndexByteString"], apart := false, narrowed := true }
def HashNobodyUptoSaid : Prop := hashNobodyUptoRow.holds Try.pinned (OpenSpec.upto hashNobodySpec)

/-- 'retconlaw02.HashKnown', WHERE WHAT IT READS IS OF BULK AT MOST 1048576: true; the input reads as it did. -/
def hashKnownUptoRow : OpenClaim := { program := "ytpnjbogpooejhaa", sum := "101402bbcf1e2647b1dc2268747dfb77b91fdc78a33500f3d8839e1c0ddede26", func := "retcon/retconlaw02.HashKnown", spec := "hashKnown", inPlace := ["internal/bytealg.IndexByteString"], apart := false, narrowed := true }
def HashKnownUptoSaid : Prop := hashKnownUptoRow.holds Try.pinned (OpenSpec.upto hashKnownSpec)

/-- 'retconlaw02.HashBeside', WHERE WHAT IT READS IS OF BULK AT MOST 1048576: true; the input reads as it did. -/
def hashBesideUptoRow : OpenClaim := { program := "ytpnjbogpooejhaa", sum := "101402bbcf1e2647b1dc2268747dfb77b91fdc78a33500f3d8839e1c0ddede26", func := "retcon/retconlaw02.HashBeside", spec := "hashBeside", inPlace := ["internal/bytealg.IndexByteString"], apart := false, narrowed := true }
def HashBesideUptoSaid : Prop := hashBesideUptoRow.holds Try.pinned (OpenSpec.upto hashBesideSpec)

end Rows
end Go.Proofs.Ytpnjbogpooejhaa
