import Derived.Test.YtgflghnbpbiakaaProg
import Derived.Below
import Derived.Deep.Draws
import Derived.Deep.AppendLies
import Derived.Maps.AppendAt
import Derived.OwnWalk
import Derived.Laws.BytesArg
import Derived.Laws.MakeOwn
import Derived.Laws.OwnMore
import Derived.Deep.OwnRows
import Derived.Tactics
import Derived.Lib.ConvBytes
import Derived.Laws.Slices
import Derived.WalkKit
import Derived.KernelRfl
import Derived.RowKit3
import Derived.Deep.LoopGhost
import Derived.Deep.QuietTactic
import Derived.BigQuiet
import Derived.WideLaws
import Derived.Deep.DeepCutAuto
import Derived.Deep.CutBlock
import Derived.Deep.RegionHeld3
import Derived.Laws.Rows
import Derived.Lib.AppendStr
import Derived.ArgAppend
import Derived.Laws.IdiomCopy
import Derived.OrdersHeld
import Derived.Laws.BitsLemmas
import Derived.RowKit
import Derived.Test.YtgflghnbpbiakaaV01
import Derived.Test.YtgflghnbpbiakaaV00
namespace Go.Proofs.Ytgflghnbpbiakaa.XH
open Go.RowKit Go.Proofs.YtgflghnbpbiakaaW.PrintWords Go.Proofs.YtgflghnbpbiakaaW.PrintLast Go.Proofs.YtgflghnbpbiakaaW.PrintMore
attribute [local go_sem] max2_int min2_int max_two min_two max_three min_three max_four min_four   -- for this text's walks alone
set_option linter.unusedVariables false
set_option linter.unusedSimpArgs false
def errW : Option Int → Value
  | none => .nilIface
  | some c => .iface 0 (.int .i64 c)
theorem errW_none : errW none = .nilIface := rfl
theorem errW_some (c : Int) : errW (some c) = .iface 0 (.int .i64 c) := rfl
theorem info5 : (Try.prog.info? 5).map (fun i => (i.zero, i.size, i.bytes)) = some (some (.int .u8 0), 1, 1) := by kernel_rfl
theorem info110 : (Try.prog.info? 110).map (fun i => (i.zero, i.size, i.bytes)) = some (some (.int .u32 0), 1, 4) := by kernel_rfl
-- the values' own types
structure S23 where
  f0 : Int
  f1 : Int
  f2 : Int
  f3 : Int
  f4 : Int
  f5 : Int
  f6 : Int
  f7 : Int
  f8 : Int
  f9 : Int
  f10 : Int
  f11 : Int
  f12 : Int
  f13 : Int
  f14 : Int
  f15 : Int
  f16 : Int
  f17 : Int
  f18 : Int
  f19 : Int
  f20 : Int
  f21 : Int
  f22 : Int
  f23 : Int
  f24 : Int
  f25 : Int
  f26 : Int
  f27 : Int
  f28 : Int
  f29 : Int
  f30 : Int
  f31 : Int
def z23 : S23 := ⟨(0 : Int), (0 : Int), (0 : Int), (0 : Int), (0 : Int), (0 : Int), (0 : Int), (0 : Int), (0 : Int), (0 : Int), (0 : Int), (0 : Int), (0 : Int), (0 : Int), (0 : Int), (0 : Int), (0 : Int), (0 : Int), (0 : Int), (0 : Int), (0 : Int), (0 : Int), (0 : Int), (0 : Int), (0 : Int), (0 : Int), (0 : Int), (0 : Int), (0 : Int), (0 : Int), (0 : Int), (0 : Int)⟩
def k23 : Kd S23 := Kd.iso (Kd.pair (Kd.int .u8) (Kd.pair (Kd.int .u8) (Kd.pair (Kd.int .u8) (Kd.pair (Kd.int .u8) (Kd.pair (Kd.int .u8) (Kd.pair (Kd.int .u8) (Kd.pair (Kd.int .u8) (Kd.pair (Kd.int .u8) (Kd.pair (Kd.int .u8) (Kd.pair (Kd.int .u8) (Kd.pair (Kd.int .u8) (Kd.pair (Kd.int .u8) (Kd.pair (Kd.int .u8) (Kd.pair (Kd.int .u8) (Kd.pair (Kd.int .u8) (Kd.pair (Kd.int .u8) (Kd.pair (Kd.int .u8) (Kd.pair (Kd.int .u8) (Kd.pair (Kd.int .u8) (Kd.pair (Kd.int .u8) (Kd.pair (Kd.int .u8) (Kd.pair (Kd.int .u8) (Kd.pair (Kd.int .u8) (Kd.pair (Kd.int .u8) (Kd.pair (Kd.int .u8) (Kd.pair (Kd.int .u8) (Kd.pair (Kd.int .u8) (Kd.pair (Kd.int .u8) (Kd.pair (Kd.int .u8) (Kd.pair (Kd.int .u8) (Kd.pair (Kd.int .u8) (Kd.int .u8)))))))))))))))))))))))))))))))) (fun x : S23 => (x.f0, x.f1, x.f2, x.f3, x.f4, x.f5, x.f6, x.f7, x.f8, x.f9, x.f10, x.f11, x.f12, x.f13, x.f14, x.f15, x.f16, x.f17, x.f18, x.f19, x.f20, x.f21, x.f22, x.f23, x.f24, x.f25, x.f26, x.f27, x.f28, x.f29, x.f30, x.f31))
theorem k23_open {w : World} {x : S23} {cs : List Value} (h : k23.K w x cs) : cs = (.int .u8 x.f0 :: .int .u8 x.f1 :: .int .u8 x.f2 :: .int .u8 x.f3 :: .int .u8 x.f4 :: .int .u8 x.f5 :: .int .u8 x.f6 :: .int .u8 x.f7 :: .int .u8 x.f8 :: .int .u8 x.f9 :: .int .u8 x.f10 :: .int .u8 x.f11 :: .int .u8 x.f12 :: .int .u8 x.f13 :: .int .u8 x.f14 :: .int .u8 x.f15 :: .int .u8 x.f16 :: .int .u8 x.f17 :: .int .u8 x.f18 :: .int .u8 x.f19 :: .int .u8 x.f20 :: .int .u8 x.f21 :: .int .u8 x.f22 :: .int .u8 x.f23 :: .int .u8 x.f24 :: .int .u8 x.f25 :: .int .u8 x.f26 :: .int .u8 x.f27 :: .int .u8 x.f28 :: .int .u8 x.f29 :: .int .u8 x.f30 :: .int .u8 x.f31 :: []) := by
  obtain ⟨_, _, rfl, rfl, ⟨_, _, rfl, rfl, ⟨_, _, rfl, rfl, ⟨_, _, rfl, rfl, ⟨_, _, rfl, rfl, ⟨_, _, rfl, rfl, ⟨_, _, rfl, rfl, ⟨_, _, rfl, rfl, ⟨_, _, rfl, rfl, ⟨_, _, rfl, rfl, ⟨_, _, rfl, rfl, ⟨_, _, rfl, rfl, ⟨_, _, rfl, rfl, ⟨_, _, rfl, rfl, ⟨_, _, rfl, rfl, ⟨_, _, rfl, rfl, ⟨_, _, rfl, rfl, ⟨_, _, rfl, rfl, ⟨_, _, rfl, rfl, ⟨_, _, rfl, rfl, ⟨_, _, rfl, rfl, ⟨_, _, rfl, rfl, ⟨_, _, rfl, rfl, ⟨_, _, rfl, rfl, ⟨_, _, rfl, rfl, ⟨_, _, rfl, rfl, ⟨_, _, rfl, rfl, ⟨_, _, rfl, rfl, ⟨_, _, rfl, rfl, ⟨_, _, rfl, rfl, ⟨_, _, rfl, rfl, rfl⟩⟩⟩⟩⟩⟩⟩⟩⟩⟩⟩⟩⟩⟩⟩⟩⟩⟩⟩⟩⟩⟩⟩⟩⟩⟩⟩⟩⟩⟩⟩ := h
  exact rfl
theorem k23_mk (w : World) (x : S23)  : k23.K w x (.int .u8 x.f0 :: .int .u8 x.f1 :: .int .u8 x.f2 :: .int .u8 x.f3 :: .int .u8 x.f4 :: .int .u8 x.f5 :: .int .u8 x.f6 :: .int .u8 x.f7 :: .int .u8 x.f8 :: .int .u8 x.f9 :: .int .u8 x.f10 :: .int .u8 x.f11 :: .int .u8 x.f12 :: .int .u8 x.f13 :: .int .u8 x.f14 :: .int .u8 x.f15 :: .int .u8 x.f16 :: .int .u8 x.f17 :: .int .u8 x.f18 :: .int .u8 x.f19 :: .int .u8 x.f20 :: .int .u8 x.f21 :: .int .u8 x.f22 :: .int .u8 x.f23 :: .int .u8 x.f24 :: .int .u8 x.f25 :: .int .u8 x.f26 :: .int .u8 x.f27 :: .int .u8 x.f28 :: .int .u8 x.f29 :: .int .u8 x.f30 :: .int .u8 x.f31 :: []) := ⟨[.int .u8 x.f0], (.int .u8 x.f1 :: .int .u8 x.f2 :: .int .u8 x.f3 :: .int .u8 x.f4 :: .int .u8 x.f5 :: .int .u8 x.f6 :: .int .u8 x.f7 :: .int .u8 x.f8 :: .int .u8 x.f9 :: .int .u8 x.f10 :: .int .u8 x.f11 :: .int .u8 x.f12 :: .int .u8 x.f13 :: .int .u8 x.f14 :: .int .u8 x.f15 :: .int .u8 x.f16 :: .int .u8 x.f17 :: .int .u8 x.f18 :: .int .u8 x.f19 :: .int .u8 x.f20 :: .int .u8 x.f21 :: .int .u8 x.f22 :: .int .u8 x.f23 :: .int .u8 x.f24 :: .int .u8 x.f25 :: .int .u8 x.f26 :: .int .u8 x.f27 :: .int .u8 x.f28 :: .int .u8 x.f29 :: .int .u8 x.f30 :: .int .u8 x.f31 :: []), rfl, rfl, ⟨[.int .u8 x.f1], (.int .u8 x.f2 :: .int .u8 x.f3 :: .int .u8 x.f4 :: .int .u8 x.f5 :: .int .u8 x.f6 :: .int .u8 x.f7 :: .int .u8 x.f8 :: .int .u8 x.f9 :: .int .u8 x.f10 :: .int .u8 x.f11 :: .int .u8 x.f12 :: .int .u8 x.f13 :: .int .u8 x.f14 :: .int .u8 x.f15 :: .int .u8 x.f16 :: .int .u8 x.f17 :: .int .u8 x.f18 :: .int .u8 x.f19 :: .int .u8 x.f20 :: .int .u8 x.f21 :: .int .u8 x.f22 :: .int .u8 x.f23 :: .int .u8 x.f24 :: .int .u8 x.f25 :: .int .u8 x.f26 :: .int .u8 x.f27 :: .int .u8 x.f28 :: .int .u8 x.f29 :: .int .u8 x.f30 :: .int .u8 x.f31 :: []), rfl, rfl, ⟨[.int .u8 x.f2], (.int .u8 x.f3 :: .int .u8 x.f4 :: .int .u8 x.f5 :: .int .u8 x.f6 :: .int .u8 x.f7 :: .int .u8 x.f8 :: .int .u8 x.f9 :: .int .u8 x.f10 :: .int .u8 x.f11 :: .int .u8 x.f12 :: .int .u8 x.f13 :: .int .u8 x.f14 :: .int .u8 x.f15 :: .int .u8 x.f16 :: .int .u8 x.f17 :: .int .u8 x.f18 :: .int .u8 x.f19 :: .int .u8 x.f20 :: .int .u8 x.f21 :: .int .u8 x.f22 :: .int .u8 x.f23 :: .int .u8 x.f24 :: .int .u8 x.f25 :: .int .u8 x.f26 :: .int .u8 x.f27 :: .int .u8 x.f28 :: .int .u8 x.f29 :: .int .u8 x.f30 :: .int .u8 x.f31 :: []), rfl, rfl, ⟨[.int .u8 x.f3], (.int .u8 x.f4 :: .int .u8 x.f5 :: .int .u8 x.f6 :: .int .u8 x.f7 :: .int .u8 x.f8 :: .int .u8 x.f9 :: .int .u8 x.f10 :: .int .u8 x.f11 :: .int .u8 x.f12 :: .int .u8 x.f13 :: .int .u8 x.f14 :: .int .u8 x.f15 :: .int .u8 x.f16 :: .int .u8 x.f17 :: .int .u8 x.f18 :: .int .u8 x.f19 :: .int .u8 x.f20 :: .int .u8 x.f21 :: .int .u8 x.f22 :: .int .u8 x.f23 :: .int .u8 x.f24 :: .int .u8 x.f25 :: .int .u8 x.f26 :: .int .u8 x.f27 :: .int .u8 x.f28 :: .int .u8 x.f29 :: .int .u8 x.f30 :: .int .u8 x.f31 :: []), rfl, rfl, ⟨[.int .u8 x.f4], (.int .u8 x.f5 :: .int .u8 x.f6 :: .int .u8 x.f7 :: .int .u8 x.f8 :: .int .u8 x.f9 :: .int .u8 x.f10 :: .int .u8 x.f11 :: .int .u8 x.f12 :: .int .u8 x.f13 :: .int .u8 x.f14 :: .int .u8 x.f15 :: .int .u8 x.f16 :: .int .u8 x.f17 :: .int .u8 x.f18 :: .int .u8 x.f19 :: .int .u8 x.f20 :: .int .u8 x.f21 :: .int .u8 x.f22 :: .int .u8 x.f23 :: .int .u8 x.f24 :: .int .u8 x.f25 :: .int .u8 x.f26 :: .int .u8 x.f27 :: .int .u8 x.f28 :: .int .u8 x.f29 :: .int .u8 x.f30 :: .int .u8 x.f31 :: []), rfl, rfl, ⟨[.int .u8 x.f5], (.int .u8 x.f6 :: .int .u8 x.f7 :: .int .u8 x.f8 :: .int .u8 x.f9 :: .int .u8 x.f10 :: .int .u8 x.f11 :: .int .u8 x.f12 :: .int .u8 x.f13 :: .int .u8 x.f14 :: .int .u8 x.f15 :: .int .u8 x.f16 :: .int .u8 x.f17 :: .int .u8 x.f18 :: .int .u8 x.f19 :: .int .u8 x.f20 :: .int .u8 x.f21 :: .int .u8 x.f22 :: .int .u8 x.f23 :: .int .u8 x.f24 :: .int .u8 x.f25 :: .int .u8 x.f26 :: .int .u8 x.f27 :: .int .u8 x.f28 :: .int .u8 x.f29 :: .int .u8 x.f30 :: .int .u8 x.f31 :: []), rfl, rfl, ⟨[.int .u8 x.f6], (.int .u8 x.f7 :: .int .u8 x.f8 :: .int .u8 x.f9 :: .int .u8 x.f10 :: .int .u8 x.f11 :: .int .u8 x.f12 :: .int .u8 x.f13 :: .int .u8 x.f14 :: .int .u8 x.f15 :: .int .u8 x.f16 :: .int .u8 x.f17 :: .int .u8 x.f18 :: .int .u8 x.f19 :: .int .u8 x.f20 :: .int .u8 x.f21 :: .int .u8 x.f22 :: .int .u8 x.f23 :: .int .u8 x.f24 :: .int .u8 x.f25 :: .int .u8 x.f26 :: .int .u8 x.f27 :: .int .u8 x.f28 :: .int .u8 x.f29 :: .int .u8 x.f30 :: .int .u8 x.f31 :: []), rfl, rfl, ⟨[.int .u8 x.f7], (.int .u8 x.f8 :: .int .u8 x.f9 :: .int .u8 x.f10 :: .int .u8 x.f11 :: .int .u8 x.f12 :: .int .u8 x.f13 :: .int .u8 x.f14 :: .int .u8 x.f15 :: .int .u8 x.f16 :: .int .u8 x.f17 :: .int .u8 x.f18 :: .int .u8 x.f19 :: .int .u8 x.f20 :: .int .u8 x.f21 :: .int .u8 x.f22 :: .int .u8 x.f23 :: .int .u8 x.f24 :: .int .u8 x.f25 :: .int .u8 x.f26 :: .int .u8 x.f27 :: .int .u8 x.f28 :: .int .u8 x.f29 :: .int .u8 x.f30 :: .int .u8 x.f31 :: []), rfl, rfl, ⟨[.int .u8 x.f8], [.int .u8 x.f9, .int .u8 x.f10, .int .u8 x.f11, .int .u8 x.f12, .int .u8 x.f13, .int .u8 x.f14, .int .u8 x.f15, .int .u8 x.f16, .int .u8 x.f17, .int .u8 x.f18, .int .u8 x.f19, .int .u8 x.f20, .int .u8 x.f21, .int .u8 x.f22, .int .u8 x.f23, .int .u8 x.f24, .int .u8 x.f25, .int .u8 x.f26, .int .u8 x.f27, .int .u8 x.f28, .int .u8 x.f29, .int .u8 x.f30, .int .u8 x.f31], rfl, rfl, ⟨[.int .u8 x.f9], [.int .u8 x.f10, .int .u8 x.f11, .int .u8 x.f12, .int .u8 x.f13, .int .u8 x.f14, .int .u8 x.f15, .int .u8 x.f16, .int .u8 x.f17, .int .u8 x.f18, .int .u8 x.f19, .int .u8 x.f20, .int .u8 x.f21, .int .u8 x.f22, .int .u8 x.f23, .int .u8 x.f24, .int .u8 x.f25, .int .u8 x.f26, .int .u8 x.f27, .int .u8 x.f28, .int .u8 x.f29, .int .u8 x.f30, .int .u8 x.f31], rfl, rfl, ⟨[.int .u8 x.f10], [.int .u8 x.f11, .int .u8 x.f12, .int .u8 x.f13, .int .u8 x.f14, .int .u8 x.f15, .int .u8 x.f16, .int .u8 x.f17, .int .u8 x.f18, .int .u8 x.f19, .int .u8 x.f20, .int .u8 x.f21, .int .u8 x.f22, .int .u8 x.f23, .int .u8 x.f24, .int .u8 x.f25, .int .u8 x.f26, .int .u8 x.f27, .int .u8 x.f28, .int .u8 x.f29, .int .u8 x.f30, .int .u8 x.f31], rfl, rfl, ⟨[.int .u8 x.f11], [.int .u8 x.f12, .int .u8 x.f13, .int .u8 x.f14, .int .u8 x.f15, .int .u8 x.f16, .int .u8 x.f17, .int .u8 x.f18, .int .u8 x.f19, .int .u8 x.f20, .int .u8 x.f21, .int .u8 x.f22, .int .u8 x.f23, .int .u8 x.f24, .int .u8 x.f25, .int .u8 x.f26, .int .u8 x.f27, .int .u8 x.f28, .int .u8 x.f29, .int .u8 x.f30, .int .u8 x.f31], rfl, rfl, ⟨[.int .u8 x.f12], [.int .u8 x.f13, .int .u8 x.f14, .int .u8 x.f15, .int .u8 x.f16, .int .u8 x.f17, .int .u8 x.f18, .int .u8 x.f19, .int .u8 x.f20, .int .u8 x.f21, .int .u8 x.f22, .int .u8 x.f23, .int .u8 x.f24, .int .u8 x.f25, .int .u8 x.f26, .int .u8 x.f27, .int .u8 x.f28, .int .u8 x.f29, .int .u8 x.f30, .int .u8 x.f31], rfl, rfl, ⟨[.int .u8 x.f13], [.int .u8 x.f14, .int .u8 x.f15, .int .u8 x.f16, .int .u8 x.f17, .int .u8 x.f18, .int .u8 x.f19, .int .u8 x.f20, .int .u8 x.f21, .int .u8 x.f22, .int .u8 x.f23, .int .u8 x.f24, .int .u8 x.f25, .int .u8 x.f26, .int .u8 x.f27, .int .u8 x.f28, .int .u8 x.f29, .int .u8 x.f30, .int .u8 x.f31], rfl, rfl, ⟨[.int .u8 x.f14], [.int .u8 x.f15, .int .u8 x.f16, .int .u8 x.f17, .int .u8 x.f18, .int .u8 x.f19, .int .u8 x.f20, .int .u8 x.f21, .int .u8 x.f22, .int .u8 x.f23, .int .u8 x.f24, .int .u8 x.f25, .int .u8 x.f26, .int .u8 x.f27, .int .u8 x.f28, .int .u8 x.f29, .int .u8 x.f30, .int .u8 x.f31], rfl, rfl, ⟨[.int .u8 x.f15], [.int .u8 x.f16, .int .u8 x.f17, .int .u8 x.f18, .int .u8 x.f19, .int .u8 x.f20, .int .u8 x.f21, .int .u8 x.f22, .int .u8 x.f23, .int .u8 x.f24, .int .u8 x.f25, .int .u8 x.f26, .int .u8 x.f27, .int .u8 x.f28, .int .u8 x.f29, .int .u8 x.f30, .int .u8 x.f31], rfl, rfl, ⟨[.int .u8 x.f16], [.int .u8 x.f17, .int .u8 x.f18, .int .u8 x.f19, .int .u8 x.f20, .int .u8 x.f21, .int .u8 x.f22, .int .u8 x.f23, .int .u8 x.f24, .int .u8 x.f25, .int .u8 x.f26, .int .u8 x.f27, .int .u8 x.f28, .int .u8 x.f29, .int .u8 x.f30, .int .u8 x.f31], rfl, rfl, ⟨[.int .u8 x.f17], [.int .u8 x.f18, .int .u8 x.f19, .int .u8 x.f20, .int .u8 x.f21, .int .u8 x.f22, .int .u8 x.f23, .int .u8 x.f24, .int .u8 x.f25, .int .u8 x.f26, .int .u8 x.f27, .int .u8 x.f28, .int .u8 x.f29, .int .u8 x.f30, .int .u8 x.f31], rfl, rfl, ⟨[.int .u8 x.f18], [.int .u8 x.f19, .int .u8 x.f20, .int .u8 x.f21, .int .u8 x.f22, .int .u8 x.f23, .int .u8 x.f24, .int .u8 x.f25, .int .u8 x.f26, .int .u8 x.f27, .int .u8 x.f28, .int .u8 x.f29, .int .u8 x.f30, .int .u8 x.f31], rfl, rfl, ⟨[.int .u8 x.f19], [.int .u8 x.f20, .int .u8 x.f21, .int .u8 x.f22, .int .u8 x.f23, .int .u8 x.f24, .int .u8 x.f25, .int .u8 x.f26, .int .u8 x.f27, .int .u8 x.f28, .int .u8 x.f29, .int .u8 x.f30, .int .u8 x.f31], rfl, rfl, ⟨[.int .u8 x.f20], [.int .u8 x.f21, .int .u8 x.f22, .int .u8 x.f23, .int .u8 x.f24, .int .u8 x.f25, .int .u8 x.f26, .int .u8 x.f27, .int .u8 x.f28, .int .u8 x.f29, .int .u8 x.f30, .int .u8 x.f31], rfl, rfl, ⟨[.int .u8 x.f21], [.int .u8 x.f22, .int .u8 x.f23, .int .u8 x.f24, .int .u8 x.f25, .int .u8 x.f26, .int .u8 x.f27, .int .u8 x.f28, .int .u8 x.f29, .int .u8 x.f30, .int .u8 x.f31], rfl, rfl, ⟨[.int .u8 x.f22], [.int .u8 x.f23, .int .u8 x.f24, .int .u8 x.f25, .int .u8 x.f26, .int .u8 x.f27, .int .u8 x.f28, .int .u8 x.f29, .int .u8 x.f30, .int .u8 x.f31], rfl, rfl, ⟨[.int .u8 x.f23], [.int .u8 x.f24, .int .u8 x.f25, .int .u8 x.f26, .int .u8 x.f27, .int .u8 x.f28, .int .u8 x.f29, .int .u8 x.f30, .int .u8 x.f31], rfl, rfl, ⟨[.int .u8 x.f24], [.int .u8 x.f25, .int .u8 x.f26, .int .u8 x.f27, .int .u8 x.f28, .int .u8 x.f29, .int .u8 x.f30, .int .u8 x.f31], rfl, rfl, ⟨[.int .u8 x.f25], [.int .u8 x.f26, .int .u8 x.f27, .int .u8 x.f28, .int .u8 x.f29, .int .u8 x.f30, .int .u8 x.f31], rfl, rfl, ⟨[.int .u8 x.f26], [.int .u8 x.f27, .int .u8 x.f28, .int .u8 x.f29, .int .u8 x.f30, .int .u8 x.f31], rfl, rfl, ⟨[.int .u8 x.f27], [.int .u8 x.f28, .int .u8 x.f29, .int .u8 x.f30, .int .u8 x.f31], rfl, rfl, ⟨[.int .u8 x.f28], [.int .u8 x.f29, .int .u8 x.f30, .int .u8 x.f31], rfl, rfl, ⟨[.int .u8 x.f29], [.int .u8 x.f30, .int .u8 x.f31], rfl, rfl, ⟨[.int .u8 x.f30], [.int .u8 x.f31], rfl, rfl, rfl⟩⟩⟩⟩⟩⟩⟩⟩⟩⟩⟩⟩⟩⟩⟩⟩⟩⟩⟩⟩⟩⟩⟩⟩⟩⟩⟩⟩⟩⟩⟩
structure S25 where
  f0 : Int
  f1 : S23
  f2 : Int
  f3 : Int
def z25 : S25 := ⟨(0 : Int), z23, (0 : Int), (0 : Int)⟩
def k25 : Kd S25 := Kd.iso (Kd.pair (Kd.int .i64) (Kd.pair k23 (Kd.pair (Kd.int .i64) (Kd.int .i64)))) (fun x : S25 => (x.f0, x.f1, x.f2, x.f3))
theorem k25_open {w : World} {x : S25} {cs : List Value} (h : k25.K w x cs) : cs = (.int .i64 x.f0 :: .int .u8 x.f1.f0 :: .int .u8 x.f1.f1 :: .int .u8 x.f1.f2 :: .int .u8 x.f1.f3 :: .int .u8 x.f1.f4 :: .int .u8 x.f1.f5 :: .int .u8 x.f1.f6 :: .int .u8 x.f1.f7 :: .int .u8 x.f1.f8 :: .int .u8 x.f1.f9 :: .int .u8 x.f1.f10 :: .int .u8 x.f1.f11 :: .int .u8 x.f1.f12 :: .int .u8 x.f1.f13 :: .int .u8 x.f1.f14 :: .int .u8 x.f1.f15 :: .int .u8 x.f1.f16 :: .int .u8 x.f1.f17 :: .int .u8 x.f1.f18 :: .int .u8 x.f1.f19 :: .int .u8 x.f1.f20 :: .int .u8 x.f1.f21 :: .int .u8 x.f1.f22 :: .int .u8 x.f1.f23 :: .int .u8 x.f1.f24 :: .int .u8 x.f1.f25 :: .int .u8 x.f1.f26 :: .int .u8 x.f1.f27 :: .int .u8 x.f1.f28 :: .int .u8 x.f1.f29 :: .int .u8 x.f1.f30 :: .int .u8 x.f1.f31 :: .int .i64 x.f2 :: .int .i64 x.f3 :: []) := by
  obtain ⟨_, _, rfl, rfl, ⟨_, _, rfl, s1, ⟨_, _, rfl, rfl, rfl⟩⟩⟩ := h
  obtain rfl := k23_open s1
  exact rfl
theorem k25_mk (w : World) (x : S25)  : k25.K w x (.int .i64 x.f0 :: .int .u8 x.f1.f0 :: .int .u8 x.f1.f1 :: .int .u8 x.f1.f2 :: .int .u8 x.f1.f3 :: .int .u8 x.f1.f4 :: .int .u8 x.f1.f5 :: .int .u8 x.f1.f6 :: .int .u8 x.f1.f7 :: .int .u8 x.f1.f8 :: .int .u8 x.f1.f9 :: .int .u8 x.f1.f10 :: .int .u8 x.f1.f11 :: .int .u8 x.f1.f12 :: .int .u8 x.f1.f13 :: .int .u8 x.f1.f14 :: .int .u8 x.f1.f15 :: .int .u8 x.f1.f16 :: .int .u8 x.f1.f17 :: .int .u8 x.f1.f18 :: .int .u8 x.f1.f19 :: .int .u8 x.f1.f20 :: .int .u8 x.f1.f21 :: .int .u8 x.f1.f22 :: .int .u8 x.f1.f23 :: .int .u8 x.f1.f24 :: .int .u8 x.f1.f25 :: .int .u8 x.f1.f26 :: .int .u8 x.f1.f27 :: .int .u8 x.f1.f28 :: .int .u8 x.f1.f29 :: .int .u8 x.f1.f30 :: .int .u8 x.f1.f31 :: .int .i64 x.f2 :: .int .i64 x.f3 :: []) := ⟨[.int .i64 x.f0], (.int .u8 x.f1.f0 :: .int .u8 x.f1.f1 :: .int .u8 x.f1.f2 :: .int .u8 x.f1.f3 :: .int .u8 x.f1.f4 :: .int .u8 x.f1.f5 :: .int .u8 x.f1.f6 :: .int .u8 x.f1.f7 :: .int .u8 x.f1.f8 :: .int .u8 x.f1.f9 :: .int .u8 x.f1.f10 :: .int .u8 x.f1.f11 :: .int .u8 x.f1.f12 :: .int .u8 x.f1.f13 :: .int .u8 x.f1.f14 :: .int .u8 x.f1.f15 :: .int .u8 x.f1.f16 :: .int .u8 x.f1.f17 :: .int .u8 x.f1.f18 :: .int .u8 x.f1.f19 :: .int .u8 x.f1.f20 :: .int .u8 x.f1.f21 :: .int .u8 x.f1.f22 :: .int .u8 x.f1.f23 :: .int .u8 x.f1.f24 :: .int .u8 x.f1.f25 :: .int .u8 x.f1.f26 :: .int .u8 x.f1.f27 :: .int .u8 x.f1.f28 :: .int .u8 x.f1.f29 :: .int .u8 x.f1.f30 :: .int .u8 x.f1.f31 :: .int .i64 x.f2 :: .int .i64 x.f3 :: []), rfl, rfl, ⟨(.int .u8 x.f1.f0 :: .int .u8 x.f1.f1 :: .int .u8 x.f1.f2 :: .int .u8 x.f1.f3 :: .int .u8 x.f1.f4 :: .int .u8 x.f1.f5 :: .int .u8 x.f1.f6 :: .int .u8 x.f1.f7 :: .int .u8 x.f1.f8 :: .int .u8 x.f1.f9 :: .int .u8 x.f1.f10 :: .int .u8 x.f1.f11 :: .int .u8 x.f1.f12 :: .int .u8 x.f1.f13 :: .int .u8 x.f1.f14 :: .int .u8 x.f1.f15 :: .int .u8 x.f1.f16 :: .int .u8 x.f1.f17 :: .int .u8 x.f1.f18 :: .int .u8 x.f1.f19 :: .int .u8 x.f1.f20 :: .int .u8 x.f1.f21 :: .int .u8 x.f1.f22 :: .int .u8 x.f1.f23 :: .int .u8 x.f1.f24 :: .int .u8 x.f1.f25 :: .int .u8 x.f1.f26 :: .int .u8 x.f1.f27 :: .int .u8 x.f1.f28 :: .int .u8 x.f1.f29 :: .int .u8 x.f1.f30 :: .int .u8 x.f1.f31 :: []), [.int .i64 x.f2, .int .i64 x.f3], rfl, (k23_mk w x.f1 ), ⟨[.int .i64 x.f2], [.int .i64 x.f3], rfl, rfl, rfl⟩⟩⟩
structure S64 where
  f0 : Int
  f1 : Int
  f2 : S25
  f3 : (List Bool)
  f4 : (List Int)
def z64 : S64 := ⟨(0 : Int), (0 : Int), z25, ([] : List Bool), ([] : List Int)⟩
def k64 : Kd S64 := Kd.iso (Kd.pair (Kd.int .i64) (Kd.pair (Kd.int .i64) (Kd.pair k25 (Kd.pair (Kd.slice 4 Kd.bool) (Kd.slice 5 (Kd.int .u8)))))) (fun x : S64 => (x.f0, x.f1, x.f2, x.f3, x.f4))
theorem k64_open {w : World} {x : S64} {cs : List Value} (h : k64.K w x cs) : ∃ A37 c37 A38 c38, cs = (.int .i64 x.f0 :: .int .i64 x.f1 :: .int .i64 x.f2.f0 :: .int .u8 x.f2.f1.f0 :: .int .u8 x.f2.f1.f1 :: .int .u8 x.f2.f1.f2 :: .int .u8 x.f2.f1.f3 :: .int .u8 x.f2.f1.f4 :: .int .u8 x.f2.f1.f5 :: .int .u8 x.f2.f1.f6 :: .int .u8 x.f2.f1.f7 :: .int .u8 x.f2.f1.f8 :: .int .u8 x.f2.f1.f9 :: .int .u8 x.f2.f1.f10 :: .int .u8 x.f2.f1.f11 :: .int .u8 x.f2.f1.f12 :: .int .u8 x.f2.f1.f13 :: .int .u8 x.f2.f1.f14 :: .int .u8 x.f2.f1.f15 :: .int .u8 x.f2.f1.f16 :: .int .u8 x.f2.f1.f17 :: .int .u8 x.f2.f1.f18 :: .int .u8 x.f2.f1.f19 :: .int .u8 x.f2.f1.f20 :: .int .u8 x.f2.f1.f21 :: .int .u8 x.f2.f1.f22 :: .int .u8 x.f2.f1.f23 :: .int .u8 x.f2.f1.f24 :: .int .u8 x.f2.f1.f25 :: .int .u8 x.f2.f1.f26 :: .int .u8 x.f2.f1.f27 :: .int .u8 x.f2.f1.f28 :: .int .u8 x.f2.f1.f29 :: .int .u8 x.f2.f1.f30 :: .int .u8 x.f2.f1.f31 :: .int .i64 x.f2.f2 :: .int .i64 x.f2.f3 :: .slice A37 x.f3.length c37 :: .slice A38 x.f4.length c38 :: []) ∧ x.f3.length ≤ c37 ∧ Kd.bool.C w A37 x.f3.length x.f3 ∧ x.f4.length ≤ c38 ∧ (Kd.int .u8).C w A38 x.f4.length x.f4 := by
  obtain ⟨_, _, rfl, rfl, ⟨_, _, rfl, rfl, ⟨_, _, rfl, s2, ⟨_, _, rfl, ⟨A37, c37, rfl, l37, g37⟩, ⟨A38, c38, rfl, l38, g38⟩⟩⟩⟩⟩ := h
  obtain rfl := k25_open s2
  exact ⟨A37, c37, A38, c38, rfl, l37, g37, l38, g38⟩
theorem k64_mk (w : World) (x : S64) {A37 : Option Addr} {c37 : Nat} (l37 : x.f3.length ≤ c37) (g37 : Kd.bool.C w A37 x.f3.length x.f3) {A38 : Option Addr} {c38 : Nat} (l38 : x.f4.length ≤ c38) (g38 : (Kd.int .u8).C w A38 x.f4.length x.f4) : k64.K w x (.int .i64 x.f0 :: .int .i64 x.f1 :: .int .i64 x.f2.f0 :: .int .u8 x.f2.f1.f0 :: .int .u8 x.f2.f1.f1 :: .int .u8 x.f2.f1.f2 :: .int .u8 x.f2.f1.f3 :: .int .u8 x.f2.f1.f4 :: .int .u8 x.f2.f1.f5 :: .int .u8 x.f2.f1.f6 :: .int .u8 x.f2.f1.f7 :: .int .u8 x.f2.f1.f8 :: .int .u8 x.f2.f1.f9 :: .int .u8 x.f2.f1.f10 :: .int .u8 x.f2.f1.f11 :: .int .u8 x.f2.f1.f12 :: .int .u8 x.f2.f1.f13 :: .int .u8 x.f2.f1.f14 :: .int .u8 x.f2.f1.f15 :: .int .u8 x.f2.f1.f16 :: .int .u8 x.f2.f1.f17 :: .int .u8 x.f2.f1.f18 :: .int .u8 x.f2.f1.f19 :: .int .u8 x.f2.f1.f20 :: .int .u8 x.f2.f1.f21 :: .int .u8 x.f2.f1.f22 :: .int .u8 x.f2.f1.f23 :: .int .u8 x.f2.f1.f24 :: .int .u8 x.f2.f1.f25 :: .int .u8 x.f2.f1.f26 :: .int .u8 x.f2.f1.f27 :: .int .u8 x.f2.f1.f28 :: .int .u8 x.f2.f1.f29 :: .int .u8 x.f2.f1.f30 :: .int .u8 x.f2.f1.f31 :: .int .i64 x.f2.f2 :: .int .i64 x.f2.f3 :: .slice A37 x.f3.length c37 :: .slice A38 x.f4.length c38 :: []) := ⟨[.int .i64 x.f0], (.int .i64 x.f1 :: .int .i64 x.f2.f0 :: .int .u8 x.f2.f1.f0 :: .int .u8 x.f2.f1.f1 :: .int .u8 x.f2.f1.f2 :: .int .u8 x.f2.f1.f3 :: .int .u8 x.f2.f1.f4 :: .int .u8 x.f2.f1.f5 :: .int .u8 x.f2.f1.f6 :: .int .u8 x.f2.f1.f7 :: .int .u8 x.f2.f1.f8 :: .int .u8 x.f2.f1.f9 :: .int .u8 x.f2.f1.f10 :: .int .u8 x.f2.f1.f11 :: .int .u8 x.f2.f1.f12 :: .int .u8 x.f2.f1.f13 :: .int .u8 x.f2.f1.f14 :: .int .u8 x.f2.f1.f15 :: .int .u8 x.f2.f1.f16 :: .int .u8 x.f2.f1.f17 :: .int .u8 x.f2.f1.f18 :: .int .u8 x.f2.f1.f19 :: .int .u8 x.f2.f1.f20 :: .int .u8 x.f2.f1.f21 :: .int .u8 x.f2.f1.f22 :: .int .u8 x.f2.f1.f23 :: .int .u8 x.f2.f1.f24 :: .int .u8 x.f2.f1.f25 :: .int .u8 x.f2.f1.f26 :: .int .u8 x.f2.f1.f27 :: .int .u8 x.f2.f1.f28 :: .int .u8 x.f2.f1.f29 :: .int .u8 x.f2.f1.f30 :: .int .u8 x.f2.f1.f31 :: .int .i64 x.f2.f2 :: .int .i64 x.f2.f3 :: .slice A37 x.f3.length c37 :: .slice A38 x.f4.length c38 :: []), rfl, rfl, ⟨[.int .i64 x.f1], (.int .i64 x.f2.f0 :: .int .u8 x.f2.f1.f0 :: .int .u8 x.f2.f1.f1 :: .int .u8 x.f2.f1.f2 :: .int .u8 x.f2.f1.f3 :: .int .u8 x.f2.f1.f4 :: .int .u8 x.f2.f1.f5 :: .int .u8 x.f2.f1.f6 :: .int .u8 x.f2.f1.f7 :: .int .u8 x.f2.f1.f8 :: .int .u8 x.f2.f1.f9 :: .int .u8 x.f2.f1.f10 :: .int .u8 x.f2.f1.f11 :: .int .u8 x.f2.f1.f12 :: .int .u8 x.f2.f1.f13 :: .int .u8 x.f2.f1.f14 :: .int .u8 x.f2.f1.f15 :: .int .u8 x.f2.f1.f16 :: .int .u8 x.f2.f1.f17 :: .int .u8 x.f2.f1.f18 :: .int .u8 x.f2.f1.f19 :: .int .u8 x.f2.f1.f20 :: .int .u8 x.f2.f1.f21 :: .int .u8 x.f2.f1.f22 :: .int .u8 x.f2.f1.f23 :: .int .u8 x.f2.f1.f24 :: .int .u8 x.f2.f1.f25 :: .int .u8 x.f2.f1.f26 :: .int .u8 x.f2.f1.f27 :: .int .u8 x.f2.f1.f28 :: .int .u8 x.f2.f1.f29 :: .int .u8 x.f2.f1.f30 :: .int .u8 x.f2.f1.f31 :: .int .i64 x.f2.f2 :: .int .i64 x.f2.f3 :: .slice A37 x.f3.length c37 :: .slice A38 x.f4.length c38 :: []), rfl, rfl, ⟨(.int .i64 x.f2.f0 :: .int .u8 x.f2.f1.f0 :: .int .u8 x.f2.f1.f1 :: .int .u8 x.f2.f1.f2 :: .int .u8 x.f2.f1.f3 :: .int .u8 x.f2.f1.f4 :: .int .u8 x.f2.f1.f5 :: .int .u8 x.f2.f1.f6 :: .int .u8 x.f2.f1.f7 :: .int .u8 x.f2.f1.f8 :: .int .u8 x.f2.f1.f9 :: .int .u8 x.f2.f1.f10 :: .int .u8 x.f2.f1.f11 :: .int .u8 x.f2.f1.f12 :: .int .u8 x.f2.f1.f13 :: .int .u8 x.f2.f1.f14 :: .int .u8 x.f2.f1.f15 :: .int .u8 x.f2.f1.f16 :: .int .u8 x.f2.f1.f17 :: .int .u8 x.f2.f1.f18 :: .int .u8 x.f2.f1.f19 :: .int .u8 x.f2.f1.f20 :: .int .u8 x.f2.f1.f21 :: .int .u8 x.f2.f1.f22 :: .int .u8 x.f2.f1.f23 :: .int .u8 x.f2.f1.f24 :: .int .u8 x.f2.f1.f25 :: .int .u8 x.f2.f1.f26 :: .int .u8 x.f2.f1.f27 :: .int .u8 x.f2.f1.f28 :: .int .u8 x.f2.f1.f29 :: .int .u8 x.f2.f1.f30 :: .int .u8 x.f2.f1.f31 :: .int .i64 x.f2.f2 :: .int .i64 x.f2.f3 :: []), [.slice A37 x.f3.length c37, .slice A38 x.f4.length c38], rfl, (k25_mk w x.f2 ), ⟨[.slice A37 x.f3.length c37], [.slice A38 x.f4.length c38], rfl, ⟨A37, c37, rfl, l37, g37⟩, ⟨A38, c38, rfl, l38, g38⟩⟩⟩⟩⟩
def rd_T64 (xs : List S64) (i : Int) : S64 := xs.getD i.toNat z64
theorem at_T64 {w : World} {A : Option Addr} {n : Nat} {xs : List S64} (h : Kd.C k64 w A n xs) (i : Int) (h0 : 0 ≤ i) (h1 : i < n) : ∃ ad A37 c37 A38 c38, A = some ad ∧ w.cell? (ad.add (i.toNat * 39)) = some (.int .i64 (rd_T64 xs i).f0) ∧ w.cell? ⟨(ad.add (i.toNat * 39)).block, (ad.add (i.toNat * 39)).off + 1, none⟩ = some (.int .i64 (rd_T64 xs i).f1) ∧ w.cell? ⟨(ad.add (i.toNat * 39)).block, (ad.add (i.toNat * 39)).off + 2, none⟩ = some (.int .i64 (rd_T64 xs i).f2.f0) ∧ w.cell? ⟨(ad.add (i.toNat * 39)).block, (ad.add (i.toNat * 39)).off + 3, none⟩ = some (.int .u8 (rd_T64 xs i).f2.f1.f0) ∧ w.cell? ⟨(ad.add (i.toNat * 39)).block, (ad.add (i.toNat * 39)).off + 4, none⟩ = some (.int .u8 (rd_T64 xs i).f2.f1.f1) ∧ w.cell? ⟨(ad.add (i.toNat * 39)).block, (ad.add (i.toNat * 39)).off + 5, none⟩ = some (.int .u8 (rd_T64 xs i).f2.f1.f2) ∧ w.cell? ⟨(ad.add (i.toNat * 39)).block, (ad.add (i.toNat * 39)).off + 6, none⟩ = some (.int .u8 (rd_T64 xs i).f2.f1.f3) ∧ w.cell? ⟨(ad.add (i.toNat * 39)).block, (ad.add (i.toNat * 39)).off + 7, none⟩ = some (.int .u8 (rd_T64 xs i).f2.f1.f4) ∧ w.cell? ⟨(ad.add (i.toNat * 39)).block, (ad.add (i.toNat * 39)).off + 8, none⟩ = some (.int .u8 (rd_T64 xs i).f2.f1.f5) ∧ w.cell? ⟨(ad.add (i.toNat * 39)).block, (ad.add (i.toNat * 39)).off + 9, none⟩ = some (.int .u8 (rd_T64 xs i).f2.f1.f6) ∧ w.cell? ⟨(ad.add (i.toNat * 39)).block, (ad.add (i.toNat * 39)).off + 10, none⟩ = some (.int .u8 (rd_T64 xs i).f2.f1.f7) ∧ w.cell? ⟨(ad.add (i.toNat * 39)).block, (ad.add (i.toNat * 39)).off + 11, none⟩ = some (.int .u8 (rd_T64 xs i).f2.f1.f8) ∧ w.cell? ⟨(ad.add (i.toNat * 39)).block, (ad.add (i.toNat * 39)).off + 12, none⟩ = some (.int .u8 (rd_T64 xs i).f2.f1.f9) ∧ w.cell? ⟨(ad.add (i.toNat * 39)).block, (ad.add (i.toNat * 39)).off + 13, none⟩ = some (.int .u8 (rd_T64 xs i).f2.f1.f10) ∧ w.cell? ⟨(ad.add (i.toNat * 39)).block, (ad.add (i.toNat * 39)).off + 14, none⟩ = some (.int .u8 (rd_T64 xs i).f2.f1.f11) ∧ w.cell? ⟨(ad.add (i.toNat * 39)).block, (ad.add (i.toNat * 39)).off + 15, none⟩ = some (.int .u8 (rd_T64 xs i).f2.f1.f12) ∧ w.cell? ⟨(ad.add (i.toNat * 39)).block, (ad.add (i.toNat * 39)).off + 16, none⟩ = some (.int .u8 (rd_T64 xs i).f2.f1.f13) ∧ w.cell? ⟨(ad.add (i.toNat * 39)).block, (ad.add (i.toNat * 39)).off + 17, none⟩ = some (.int .u8 (rd_T64 xs i).f2.f1.f14) ∧ w.cell? ⟨(ad.add (i.toNat * 39)).block, (ad.add (i.toNat * 39)).off + 18, none⟩ = some (.int .u8 (rd_T64 xs i).f2.f1.f15) ∧ w.cell? ⟨(ad.add (i.toNat * 39)).block, (ad.add (i.toNat * 39)).off + 19, none⟩ = some (.int .u8 (rd_T64 xs i).f2.f1.f16) ∧ w.cell? ⟨(ad.add (i.toNat * 39)).block, (ad.add (i.toNat * 39)).off + 20, none⟩ = some (.int .u8 (rd_T64 xs i).f2.f1.f17) ∧ w.cell? ⟨(ad.add (i.toNat * 39)).block, (ad.add (i.toNat * 39)).off + 21, none⟩ = some (.int .u8 (rd_T64 xs i).f2.f1.f18) ∧ w.cell? ⟨(ad.add (i.toNat * 39)).block, (ad.add (i.toNat * 39)).off + 22, none⟩ = some (.int .u8 (rd_T64 xs i).f2.f1.f19) ∧ w.cell? ⟨(ad.add (i.toNat * 39)).block, (ad.add (i.toNat * 39)).off + 23, none⟩ = some (.int .u8 (rd_T64 xs i).f2.f1.f20) ∧ w.cell? ⟨(ad.add (i.toNat * 39)).block, (ad.add (i.toNat * 39)).off + 24, none⟩ = some (.int .u8 (rd_T64 xs i).f2.f1.f21) ∧ w.cell? ⟨(ad.add (i.toNat * 39)).block, (ad.add (i.toNat * 39)).off + 25, none⟩ = some (.int .u8 (rd_T64 xs i).f2.f1.f22) ∧ w.cell? ⟨(ad.add (i.toNat * 39)).block, (ad.add (i.toNat * 39)).off + 26, none⟩ = some (.int .u8 (rd_T64 xs i).f2.f1.f23) ∧ w.cell? ⟨(ad.add (i.toNat * 39)).block, (ad.add (i.toNat * 39)).off + 27, none⟩ = some (.int .u8 (rd_T64 xs i).f2.f1.f24) ∧ w.cell? ⟨(ad.add (i.toNat * 39)).block, (ad.add (i.toNat * 39)).off + 28, none⟩ = some (.int .u8 (rd_T64 xs i).f2.f1.f25) ∧ w.cell? ⟨(ad.add (i.toNat * 39)).block, (ad.add (i.toNat * 39)).off + 29, none⟩ = some (.int .u8 (rd_T64 xs i).f2.f1.f26) ∧ w.cell? ⟨(ad.add (i.toNat * 39)).block, (ad.add (i.toNat * 39)).off + 30, none⟩ = some (.int .u8 (rd_T64 xs i).f2.f1.f27) ∧ w.cell? ⟨(ad.add (i.toNat * 39)).block, (ad.add (i.toNat * 39)).off + 31, none⟩ = some (.int .u8 (rd_T64 xs i).f2.f1.f28) ∧ w.cell? ⟨(ad.add (i.toNat * 39)).block, (ad.add (i.toNat * 39)).off + 32, none⟩ = some (.int .u8 (rd_T64 xs i).f2.f1.f29) ∧ w.cell? ⟨(ad.add (i.toNat * 39)).block, (ad.add (i.toNat * 39)).off + 33, none⟩ = some (.int .u8 (rd_T64 xs i).f2.f1.f30) ∧ w.cell? ⟨(ad.add (i.toNat * 39)).block, (ad.add (i.toNat * 39)).off + 34, none⟩ = some (.int .u8 (rd_T64 xs i).f2.f1.f31) ∧ w.cell? ⟨(ad.add (i.toNat * 39)).block, (ad.add (i.toNat * 39)).off + 35, none⟩ = some (.int .i64 (rd_T64 xs i).f2.f2) ∧ w.cell? ⟨(ad.add (i.toNat * 39)).block, (ad.add (i.toNat * 39)).off + 36, none⟩ = some (.int .i64 (rd_T64 xs i).f2.f3) ∧ w.cell? ⟨(ad.add (i.toNat * 39)).block, (ad.add (i.toNat * 39)).off + 37, none⟩ = some (.slice A37 (rd_T64 xs i).f3.length c37) ∧ w.cell? ⟨(ad.add (i.toNat * 39)).block, (ad.add (i.toNat * 39)).off + 38, none⟩ = some (.slice A38 (rd_T64 xs i).f4.length c38) ∧ (rd_T64 xs i).f3.length ≤ c37 ∧ Kd.bool.C w A37 (rd_T64 xs i).f3.length (rd_T64 xs i).f3 ∧ (rd_T64 xs i).f4.length ≤ c38 ∧ (Kd.int .u8).C w A38 (rd_T64 xs i).f4.length (rd_T64 xs i).f4 := by
  obtain ⟨ad, c, e, _, hK, hc0⟩ := Kd.C_get h z64 i h0 h1
  have hc : ∀ j u, c[j]? = some u → w.cell? (ad.add (i.toNat * 39 + j)) = some u := hc0
  obtain ⟨A37, c37, A38, c38, rfl, l37, g37, l38, g38⟩ := k64_open hK
  exact ⟨ad, A37, c37, A38, c38, e, hc 0 _ rfl, by rw [← add_field _ _ 1 (by omega)]; exact hc 1 _ rfl, by rw [← add_field _ _ 2 (by omega)]; exact hc 2 _ rfl, by rw [← add_field _ _ 3 (by omega)]; exact hc 3 _ rfl, by rw [← add_field _ _ 4 (by omega)]; exact hc 4 _ rfl, by rw [← add_field _ _ 5 (by omega)]; exact hc 5 _ rfl, by rw [← add_field _ _ 6 (by omega)]; exact hc 6 _ rfl, by rw [← add_field _ _ 7 (by omega)]; exact hc 7 _ rfl, by rw [← add_field _ _ 8 (by omega)]; exact hc 8 _ rfl, by rw [← add_field _ _ 9 (by omega)]; exact hc 9 _ rfl, by rw [← add_field _ _ 10 (by omega)]; exact hc 10 _ rfl, by rw [← add_field _ _ 11 (by omega)]; exact hc 11 _ rfl, by rw [← add_field _ _ 12 (by omega)]; exact hc 12 _ rfl, by rw [← add_field _ _ 13 (by omega)]; exact hc 13 _ rfl, by rw [← add_field _ _ 14 (by omega)]; exact hc 14 _ rfl, by rw [← add_field _ _ 15 (by omega)]; exact hc 15 _ rfl, by rw [← add_field _ _ 16 (by omega)]; exact hc 16 _ rfl, by rw [← add_field _ _ 17 (by omega)]; exact hc 17 _ rfl, by rw [← add_field _ _ 18 (by omega)]; exact hc 18 _ rfl, by rw [← add_field _ _ 19 (by omega)]; exact hc 19 _ rfl, by rw [← add_field _ _ 20 (by omega)]; exact hc 20 _ rfl, by rw [← add_field _ _ 21 (by omega)]; exact hc 21 _ rfl, by rw [← add_field _ _ 22 (by omega)]; exact hc 22 _ rfl, by rw [← add_field _ _ 23 (by omega)]; exact hc 23 _ rfl, by rw [← add_field _ _ 24 (by omega)]; exact hc 24 _ rfl, by rw [← add_field _ _ 25 (by omega)]; exact hc 25 _ rfl, by rw [← add_field _ _ 26 (by omega)]; exact hc 26 _ rfl, by rw [← add_field _ _ 27 (by omega)]; exact hc 27 _ rfl, by rw [← add_field _ _ 28 (by omega)]; exact hc 28 _ rfl, by rw [← add_field _ _ 29 (by omega)]; exact hc 29 _ rfl, by rw [← add_field _ _ 30 (by omega)]; exact hc 30 _ rfl, by rw [← add_field _ _ 31 (by omega)]; exact hc 31 _ rfl, by rw [← add_field _ _ 32 (by omega)]; exact hc 32 _ rfl, by rw [← add_field _ _ 33 (by omega)]; exact hc 33 _ rfl, by rw [← add_field _ _ 34 (by omega)]; exact hc 34 _ rfl, by rw [← add_field _ _ 35 (by omega)]; exact hc 35 _ rfl, by rw [← add_field _ _ 36 (by omega)]; exact hc 36 _ rfl, by rw [← add_field _ _ 37 (by omega)]; exact hc 37 _ rfl, by rw [← add_field _ _ 38 (by omega)]; exact hc 38 _ rfl, l37, g37, l38, g38⟩
structure S102 where
  f0 : Int
  f1 : (List Int)
def k102 : Kd S102 := Kd.iso (Kd.pair (Kd.int .i64) (Kd.slice 5 (Kd.int .u8))) (fun x : S102 => (x.f0, x.f1))
end Go.Proofs.Ytgflghnbpbiakaa.XH
namespace Go.Proofs.Ytgflghnbpbiakaa.XH
open Go.RowKit Go.Proofs.YtgflghnbpbiakaaW.PrintWords Go.Proofs.YtgflghnbpbiakaaW.PrintLast Go.Proofs.YtgflghnbpbiakaaW.PrintMore
attribute [local go_sem] max2_int min2_int max_two min_two max_three min_three max_four min_four   -- for this text's walks alone
set_option linter.unusedVariables false
set_option linter.unusedSimpArgs false

-- NOT PRINTED: function 61 (slices_Grow_byte_byte)

-- NOT PRINTED: function 38 (slices_Concat_byte_byte)
def hash_first.f  : Option (Int × Int × Int × Int × Int × Int × Int × Int) := some (1779033703, 3144134277, 1013904242, 2773480762, 1359893119, 2600822924, 528734635, 1541459225)
set_option maxHeartbeats 8000000 in
set_option maxRecDepth 100000 in
theorem hash_first.calls  (r1 : Int) (r2 : Int) (r3 : Int) (r4 : Int) (r5 : Int) (r6 : Int) (r7 : Int) (r8 : Int) (w : World) (h : hash_first.f  = some (r1, r2, r3, r4, r5, r6, r7, r8)) :
    Calls Try.prog 72 #[] w fun e w' => e = .returned (.agg #[.int .u32 r1, .int .u32 r2, .int .u32 r3, .int .u32 r4, .int .u32 r5, .int .u32 r6, .int .u32 r7, .int .u32 r8]) ∧ Below w.heap.size w w' := by
  have hu121 := Try.underlying121
  have HB := Aside0.mk (Below.refl w.heap.size w)
  have H : (some (1779033703, 3144134277, 1013904242, 2773480762, 1359893119, 2600822924, 528734635, 1541459225)) = some (r1, r2, r3, r4, r5, r6, r7, r8) := h
  clear h
  simp only [Option.some.injEq, Prod.mk.injEq] at H
  obtain ⟨rfl, rfl, rfl, rfl, rfl, rfl, rfl, rfl⟩ := H
  go_enter Try.func72, Try.ntmps72
  go_wp2_with (first | ((with_reducible refine gate_dst (N := 0) rfl ?_); refine box_event ?hg (N := 0) ?hd (cs := #[.int .u32 0, .int .u32 0, .int .u32 0, .int .u32 0, .int .u32 0, .int .u32 0, .int .u32 0, .int .u32 0]) (t := 121) ?hr ?_; (case hd => rfl); (case hg => rfl); (case hr => first | (go_simp; done) | (go_simp; rfl)); intro gb106 hg w1 hbox hb; have n0_ := Aside0.mk (below_step (by repeat (first | (with_reducible first | exact HB.out | apply below_alloc | apply pw_below_drewN | apply below_drew1) | exact HB.out)) hb); have n1_ := Aside0.mk (hbox); have n2_ := Aside0.mk ((by rw [hg]; exact (below_size (by repeat (first | (with_reducible first | exact HB.out | apply below_alloc | apply pw_below_drewN | apply below_drew1) | exact HB.out))) : w.heap.size ≤ gb106)); have n3_ := Aside0.mk ((by rw [hg]; exact (below_size (by repeat (first | (with_reducible first | exact HB.out | apply below_alloc | apply pw_below_drewN | apply below_drew1) | exact HB.out))) : w.heap.size ≤ gb106)); clear HB; have HB := n0_; have BK106 := n1_; have GW106 := n2_; have GE106 := n3_; clear n0_ n1_ n2_ n3_; clear hb hbox hg; have hcz2_0 : w1.cell? ⟨gb106, 0, none⟩ = some (.int .u32 0) := (blk_cell BK106.out 0).trans rfl; have hcz2_1 : w1.cell? ⟨gb106, 1, none⟩ = some (.int .u32 0) := (blk_cell BK106.out 1).trans rfl; have hcz2_2 : w1.cell? ⟨gb106, 2, none⟩ = some (.int .u32 0) := (blk_cell BK106.out 2).trans rfl; have hcz2_3 : w1.cell? ⟨gb106, 3, none⟩ = some (.int .u32 0) := (blk_cell BK106.out 3).trans rfl; have hcz2_4 : w1.cell? ⟨gb106, 4, none⟩ = some (.int .u32 0) := (blk_cell BK106.out 4).trans rfl; have hcz2_5 : w1.cell? ⟨gb106, 5, none⟩ = some (.int .u32 0) := (blk_cell BK106.out 5).trans rfl; have hcz2_6 : w1.cell? ⟨gb106, 6, none⟩ = some (.int .u32 0) := (blk_cell BK106.out 6).trans rfl; have hcz2_7 : w1.cell? ⟨gb106, 7, none⟩ = some (.int .u32 0) := (blk_cell BK106.out 7).trans rfl; have hfz2_0 := blk_frozen BK106.out 0; have hfz2_1 := blk_frozen BK106.out 1; have hfz2_2 := blk_frozen BK106.out 2; have hfz2_3 := blk_frozen BK106.out 3; have hfz2_4 := blk_frozen BK106.out 4; have hfz2_5 := blk_frozen BK106.out 5; have hfz2_6 := blk_frozen BK106.out 6; have hfz2_7 := blk_frozen BK106.out 7))
  refine bodyPost_ret (results_cell_row rfl _ _ gb106 121 #[.int .u32 1779033703, .int .u32 3144134277, .int .u32 1013904242, .int .u32 2773480762, .int .u32 1359893119, .int .u32 2600822924, .int .u32 528734635, .int .u32 1541459225] (0, 0) _ rfl (by (with_reducible repeat (first | refine blk_drewN ?_ _ | refine blk_drew ?_ | refine blk_alloc ?_ _)); refine blk_put (cs := #[.int .u32 1779033703, .int .u32 3144134277, .int .u32 1013904242, .int .u32 2773480762, .int .u32 1359893119, .int .u32 2600822924, .int .u32 528734635, .int .u32 0]) ?_ 7 _ rfl; (with_reducible repeat (first | refine blk_drewN ?_ _ | refine blk_drew ?_ | refine blk_alloc ?_ _)); refine blk_put (cs := #[.int .u32 1779033703, .int .u32 3144134277, .int .u32 1013904242, .int .u32 2773480762, .int .u32 1359893119, .int .u32 2600822924, .int .u32 0, .int .u32 0]) ?_ 6 _ rfl; (with_reducible repeat (first | refine blk_drewN ?_ _ | refine blk_drew ?_ | refine blk_alloc ?_ _)); refine blk_put (cs := #[.int .u32 1779033703, .int .u32 3144134277, .int .u32 1013904242, .int .u32 2773480762, .int .u32 1359893119, .int .u32 0, .int .u32 0, .int .u32 0]) ?_ 5 _ rfl; (with_reducible repeat (first | refine blk_drewN ?_ _ | refine blk_drew ?_ | refine blk_alloc ?_ _)); refine blk_put (cs := #[.int .u32 1779033703, .int .u32 3144134277, .int .u32 1013904242, .int .u32 2773480762, .int .u32 0, .int .u32 0, .int .u32 0, .int .u32 0]) ?_ 4 _ rfl; (with_reducible repeat (first | refine blk_drewN ?_ _ | refine blk_drew ?_ | refine blk_alloc ?_ _)); refine blk_put (cs := #[.int .u32 1779033703, .int .u32 3144134277, .int .u32 1013904242, .int .u32 0, .int .u32 0, .int .u32 0, .int .u32 0, .int .u32 0]) ?_ 3 _ rfl; (with_reducible repeat (first | refine blk_drewN ?_ _ | refine blk_drew ?_ | refine blk_alloc ?_ _)); refine blk_put (cs := #[.int .u32 1779033703, .int .u32 3144134277, .int .u32 0, .int .u32 0, .int .u32 0, .int .u32 0, .int .u32 0, .int .u32 0]) ?_ 2 _ rfl; (with_reducible repeat (first | refine blk_drewN ?_ _ | refine blk_drew ?_ | refine blk_alloc ?_ _)); refine blk_put (cs := #[.int .u32 1779033703, .int .u32 0, .int .u32 0, .int .u32 0, .int .u32 0, .int .u32 0, .int .u32 0, .int .u32 0]) ?_ 1 _ rfl; (with_reducible repeat (first | refine blk_drewN ?_ _ | refine blk_drew ?_ | refine blk_alloc ?_ _)); refine blk_put (cs := #[.int .u32 0, .int .u32 0, .int .u32 0, .int .u32 0, .int .u32 0, .int .u32 0, .int .u32 0, .int .u32 0]) ?_ 0 _ rfl; (with_reducible repeat (first | refine blk_drewN ?_ _ | refine blk_drew ?_ | refine blk_alloc ?_ _)); exact BK106.out) Try.underlying121 rfl (by kernel_rfl)) rfl ?_
  exact ⟨by first | rfl | (simp [errW_none, errW_some] <;> rfl) | (simp [*, errW_none, errW_some] <;> rfl), by repeat (first | (with_reducible first | exact HB.out | apply below_alloc | apply pw_below_drewN | apply below_drew1 | refine below_set ?_ GE106.out) | exact HB.out)⟩

-- NOT PRINTED: function 62 (hash_New)

-- NOT PRINTED: function 73 (hash_Digest_absent)
end Go.Proofs.Ytgflghnbpbiakaa.XH
namespace Go.Proofs.Ytgflghnbpbiakaa.XH
open Go.RowKit Go.Proofs.YtgflghnbpbiakaaW.PrintWords Go.Proofs.YtgflghnbpbiakaaW.PrintLast Go.Proofs.YtgflghnbpbiakaaW.PrintMore
attribute [local go_sem] max2_int min2_int max_two min_two max_three min_three max_four min_four   -- for this text's walks alone
set_option linter.unusedVariables false
set_option linter.unusedSimpArgs false
def retconref02_message.f (l0 : List Int) : Option (List Int) := (some (([] : List Int) : List Int)).bind fun y128 => (if y128.length + l0.length < 140737488355328 then ((some (y128 ++ l0 : List Int)).bind fun y131 => (if y131.length < 140737488355328 then ((some (y131 ++ [128] : List Int)).bind fun y134 => (if 0 ≤ ((119 - ((l0.length : Int) % 64)) % 64) then (if y134.length + ((119 - ((l0.length : Int) % 64)) % 64 : Int).toNat < 140737488355328 then ((some (y134 ++ List.replicate ((119 - ((l0.length : Int) % 64)) % 64 : Int).toNat 0 : List Int)).bind fun y137 => ((some (([((IntKind.u64.wrap ((IntKind.u64.wrap ((l0.length : Int))) * 8)) / 72057594037927936) % 256, ((IntKind.u64.wrap ((IntKind.u64.wrap ((l0.length : Int))) * 8)) / 281474976710656) % 256, ((IntKind.u64.wrap ((IntKind.u64.wrap ((l0.length : Int))) * 8)) / 1099511627776) % 256, ((IntKind.u64.wrap ((IntKind.u64.wrap ((l0.length : Int))) * 8)) / 4294967296) % 256, ((IntKind.u64.wrap ((IntKind.u64.wrap ((l0.length : Int))) * 8)) / 16777216) % 256, ((IntKind.u64.wrap ((IntKind.u64.wrap ((l0.length : Int))) * 8)) / 65536) % 256, ((IntKind.u64.wrap ((IntKind.u64.wrap ((l0.length : Int))) * 8)) / 256) % 256, (IntKind.u64.wrap ((IntKind.u64.wrap ((l0.length : Int))) * 8)) % 256] : List Int) : List Int)).bind fun y140 => (if y137.length + y140.length < 140737488355328 then (some (y137 ++ y140)) else (none)))) else (none)) else (none))) else (none))) else (none))
set_option maxHeartbeats 8000000 in
set_option maxRecDepth 100000 in
theorem retconref02_message.calls (A0 : Option Addr) (c0 : Nat) (l0 : List Int) (r : List Int) (w : World) (hr0 : Kd.C (Kd.int .u8) w A0 l0.length l0) (hc0 : l0.length ≤ c0) (h : retconref02_message.f l0 = some r) :
    Calls Try.prog 65 #[.slice A0 l0.length c0] w fun e w' => ∃ v0_ : Value, e = .returned (v0_) ∧ Kd.R (Kd.int .u8) 5 w' w.heap.size (fun _ => True) v0_ r ∧ Below w.heap.size w w' := by
  have HR0 := Aside0.mk hr0
  have HC0 := Aside0.mk hc0
  clear hr0 hc0
  have HB := Aside0.mk (Below.refl w.heap.size w)
  have H : ((some (([] : List Int) : List Int)).bind fun y128 => (if y128.length + l0.length < 140737488355328 then ((some (y128 ++ l0 : List Int)).bind fun y131 => (if y131.length < 140737488355328 then ((some (y131 ++ [128] : List Int)).bind fun y134 => (if 0 ≤ ((119 - ((l0.length : Int) % 64)) % 64) then (if y134.length + ((119 - ((l0.length : Int) % 64)) % 64 : Int).toNat < 140737488355328 then ((some (y134 ++ List.replicate ((119 - ((l0.length : Int) % 64)) % 64 : Int).toNat 0 : List Int)).bind fun y137 => ((some (([((IntKind.u64.wrap ((IntKind.u64.wrap ((l0.length : Int))) * 8)) / 72057594037927936) % 256, ((IntKind.u64.wrap ((IntKind.u64.wrap ((l0.length : Int))) * 8)) / 281474976710656) % 256, ((IntKind.u64.wrap ((IntKind.u64.wrap ((l0.length : Int))) * 8)) / 1099511627776) % 256, ((IntKind.u64.wrap ((IntKind.u64.wrap ((l0.length : Int))) * 8)) / 4294967296) % 256, ((IntKind.u64.wrap ((IntKind.u64.wrap ((l0.length : Int))) * 8)) / 16777216) % 256, ((IntKind.u64.wrap ((IntKind.u64.wrap ((l0.length : Int))) * 8)) / 65536) % 256, ((IntKind.u64.wrap ((IntKind.u64.wrap ((l0.length : Int))) * 8)) / 256) % 256, (IntKind.u64.wrap ((IntKind.u64.wrap ((l0.length : Int))) * 8)) % 256] : List Int) : List Int)).bind fun y140 => (if y137.length + y140.length < 140737488355328 then (some (y137 ++ y140)) else (none)))) else (none)) else (none))) else (none))) else (none))) = some r := h
  clear h
  obtain ⟨y128, hy128⟩ : ∃ y_ : List Int, y_ = (([] : List Int)) := ⟨_, rfl⟩
  replace H : (if y128.length + l0.length < 140737488355328 then ((some (y128 ++ l0 : List Int)).bind fun y131 => (if y131.length < 140737488355328 then ((some (y131 ++ [128] : List Int)).bind fun y134 => (if 0 ≤ ((119 - ((l0.length : Int) % 64)) % 64) then (if y134.length + ((119 - ((l0.length : Int) % 64)) % 64 : Int).toNat < 140737488355328 then ((some (y134 ++ List.replicate ((119 - ((l0.length : Int) % 64)) % 64 : Int).toNat 0 : List Int)).bind fun y137 => ((some (([((IntKind.u64.wrap ((IntKind.u64.wrap ((l0.length : Int))) * 8)) / 72057594037927936) % 256, ((IntKind.u64.wrap ((IntKind.u64.wrap ((l0.length : Int))) * 8)) / 281474976710656) % 256, ((IntKind.u64.wrap ((IntKind.u64.wrap ((l0.length : Int))) * 8)) / 1099511627776) % 256, ((IntKind.u64.wrap ((IntKind.u64.wrap ((l0.length : Int))) * 8)) / 4294967296) % 256, ((IntKind.u64.wrap ((IntKind.u64.wrap ((l0.length : Int))) * 8)) / 16777216) % 256, ((IntKind.u64.wrap ((IntKind.u64.wrap ((l0.length : Int))) * 8)) / 65536) % 256, ((IntKind.u64.wrap ((IntKind.u64.wrap ((l0.length : Int))) * 8)) / 256) % 256, (IntKind.u64.wrap ((IntKind.u64.wrap ((l0.length : Int))) * 8)) % 256] : List Int) : List Int)).bind fun y140 => (if y137.length + y140.length < 140737488355328 then (some (y137 ++ y140)) else (none)))) else (none)) else (none))) else (none))) else (none)) = some r := by first | (rw [hy128]; with_reducible exact H) | (have H2_ := (Option.bind_some _ _).symm.trans H; rw [hy128]; with_reducible exact H2_) | (have H2_ := (Option.bind_some _ _).symm.trans H; with_reducible exact H2_) | with_reducible exact H | (rw [hy128]; exact H) | exact H
  have Ny128 := Aside0.mk hy128
  clear hy128
  by_cases c2 : y128.length + l0.length < 140737488355328
  · rw [if_pos c2] at H
    have LMc2 := Aside0.mk c2
    clear c2
    obtain ⟨y131, hy131⟩ : ∃ y_ : List Int, y_ = (y128 ++ l0) := ⟨_, rfl⟩
    replace H : (if y131.length < 140737488355328 then ((some (y131 ++ [128] : List Int)).bind fun y134 => (if 0 ≤ ((119 - ((l0.length : Int) % 64)) % 64) then (if y134.length + ((119 - ((l0.length : Int) % 64)) % 64 : Int).toNat < 140737488355328 then ((some (y134 ++ List.replicate ((119 - ((l0.length : Int) % 64)) % 64 : Int).toNat 0 : List Int)).bind fun y137 => ((some (([((IntKind.u64.wrap ((IntKind.u64.wrap ((l0.length : Int))) * 8)) / 72057594037927936) % 256, ((IntKind.u64.wrap ((IntKind.u64.wrap ((l0.length : Int))) * 8)) / 281474976710656) % 256, ((IntKind.u64.wrap ((IntKind.u64.wrap ((l0.length : Int))) * 8)) / 1099511627776) % 256, ((IntKind.u64.wrap ((IntKind.u64.wrap ((l0.length : Int))) * 8)) / 4294967296) % 256, ((IntKind.u64.wrap ((IntKind.u64.wrap ((l0.length : Int))) * 8)) / 16777216) % 256, ((IntKind.u64.wrap ((IntKind.u64.wrap ((l0.length : Int))) * 8)) / 65536) % 256, ((IntKind.u64.wrap ((IntKind.u64.wrap ((l0.length : Int))) * 8)) / 256) % 256, (IntKind.u64.wrap ((IntKind.u64.wrap ((l0.length : Int))) * 8)) % 256] : List Int) : List Int)).bind fun y140 => (if y137.length + y140.length < 140737488355328 then (some (y137 ++ y140)) else (none)))) else (none)) else (none))) else (none)) = some r := by first | (rw [hy131]; with_reducible exact H) | (have H2_ := (Option.bind_some _ _).symm.trans H; rw [hy131]; with_reducible exact H2_) | (have H2_ := (Option.bind_some _ _).symm.trans H; with_reducible exact H2_) | with_reducible exact H | (rw [hy131]; exact H) | exact H
    have Ny131 := Aside0.mk hy131
    clear hy131
    by_cases c3 : y131.length < 140737488355328
    · rw [if_pos c3] at H
      have LMc3 := Aside0.mk c3
      clear c3
      obtain ⟨y134, hy134⟩ : ∃ y_ : List Int, y_ = (y131 ++ [128]) := ⟨_, rfl⟩
      replace H : (if 0 ≤ ((119 - ((l0.length : Int) % 64)) % 64) then (if y134.length + ((119 - ((l0.length : Int) % 64)) % 64 : Int).toNat < 140737488355328 then ((some (y134 ++ List.replicate ((119 - ((l0.length : Int) % 64)) % 64 : Int).toNat 0 : List Int)).bind fun y137 => ((some (([((IntKind.u64.wrap ((IntKind.u64.wrap ((l0.length : Int))) * 8)) / 72057594037927936) % 256, ((IntKind.u64.wrap ((IntKind.u64.wrap ((l0.length : Int))) * 8)) / 281474976710656) % 256, ((IntKind.u64.wrap ((IntKind.u64.wrap ((l0.length : Int))) * 8)) / 1099511627776) % 256, ((IntKind.u64.wrap ((IntKind.u64.wrap ((l0.length : Int))) * 8)) / 4294967296) % 256, ((IntKind.u64.wrap ((IntKind.u64.wrap ((l0.length : Int))) * 8)) / 16777216) % 256, ((IntKind.u64.wrap ((IntKind.u64.wrap ((l0.length : Int))) * 8)) / 65536) % 256, ((IntKind.u64.wrap ((IntKind.u64.wrap ((l0.length : Int))) * 8)) / 256) % 256, (IntKind.u64.wrap ((IntKind.u64.wrap ((l0.length : Int))) * 8)) % 256] : List Int) : List Int)).bind fun y140 => (if y137.length + y140.length < 140737488355328 then (some (y137 ++ y140)) else (none)))) else (none)) else (none)) = some r := by first | (rw [hy134]; with_reducible exact H) | (have H2_ := (Option.bind_some _ _).symm.trans H; rw [hy134]; with_reducible exact H2_) | (have H2_ := (Option.bind_some _ _).symm.trans H; with_reducible exact H2_) | with_reducible exact H | (rw [hy134]; exact H) | exact H
      have Ny134 := Aside0.mk hy134
      clear hy134
      obtain ⟨ji4, hji4⟩ : ∃ j_ : Int, ((119 - ((l0.length : Int) % 64)) % 64) = j_ := ⟨_, rfl⟩
      replace H : (if 0 ≤ (ji4) then (if y134.length + (ji4 : Int).toNat < 140737488355328 then ((some (y134 ++ List.replicate (ji4 : Int).toNat 0 : List Int)).bind fun y137 => ((some (([((IntKind.u64.wrap ((IntKind.u64.wrap ((l0.length : Int))) * 8)) / 72057594037927936) % 256, ((IntKind.u64.wrap ((IntKind.u64.wrap ((l0.length : Int))) * 8)) / 281474976710656) % 256, ((IntKind.u64.wrap ((IntKind.u64.wrap ((l0.length : Int))) * 8)) / 1099511627776) % 256, ((IntKind.u64.wrap ((IntKind.u64.wrap ((l0.length : Int))) * 8)) / 4294967296) % 256, ((IntKind.u64.wrap ((IntKind.u64.wrap ((l0.length : Int))) * 8)) / 16777216) % 256, ((IntKind.u64.wrap ((IntKind.u64.wrap ((l0.length : Int))) * 8)) / 65536) % 256, ((IntKind.u64.wrap ((IntKind.u64.wrap ((l0.length : Int))) * 8)) / 256) % 256, (IntKind.u64.wrap ((IntKind.u64.wrap ((l0.length : Int))) * 8)) % 256] : List Int) : List Int)).bind fun y140 => (if y137.length + y140.length < 140737488355328 then (some (y137 ++ y140)) else (none)))) else (none)) else (none)) = some r := by first | (rw [hji4] at H; exact H) | (simp only [hji4] at H ⊢; exact H)
      by_cases c5 : 0 ≤ (ji4)
      · rw [if_pos c5] at H
        have c5b0 := eq_true c5
        have c5b1 : decide (0 ≤ (ji4)) = true := decide_eq_true c5
        clear c5
        by_cases c6 : y134.length + (ji4 : Int).toNat < 140737488355328
        · rw [if_pos c6] at H
          have LMc6 := Aside0.mk c6
          clear c6
          obtain ⟨y137, hy137⟩ : ∃ y_ : List Int, y_ = (y134 ++ List.replicate (ji4 : Int).toNat 0) := ⟨_, rfl⟩
          replace H : ((some (([((IntKind.u64.wrap ((IntKind.u64.wrap ((l0.length : Int))) * 8)) / 72057594037927936) % 256, ((IntKind.u64.wrap ((IntKind.u64.wrap ((l0.length : Int))) * 8)) / 281474976710656) % 256, ((IntKind.u64.wrap ((IntKind.u64.wrap ((l0.length : Int))) * 8)) / 1099511627776) % 256, ((IntKind.u64.wrap ((IntKind.u64.wrap ((l0.length : Int))) * 8)) / 4294967296) % 256, ((IntKind.u64.wrap ((IntKind.u64.wrap ((l0.length : Int))) * 8)) / 16777216) % 256, ((IntKind.u64.wrap ((IntKind.u64.wrap ((l0.length : Int))) * 8)) / 65536) % 256, ((IntKind.u64.wrap ((IntKind.u64.wrap ((l0.length : Int))) * 8)) / 256) % 256, (IntKind.u64.wrap ((IntKind.u64.wrap ((l0.length : Int))) * 8)) % 256] : List Int) : List Int)).bind fun y140 => (if y137.length + y140.length < 140737488355328 then (some (y137 ++ y140)) else (none))) = some r := by first | (rw [hy137]; with_reducible exact H) | (have H2_ := (Option.bind_some _ _).symm.trans H; rw [hy137]; with_reducible exact H2_) | (have H2_ := (Option.bind_some _ _).symm.trans H; with_reducible exact H2_) | with_reducible exact H | (rw [hy137]; exact H) | exact H
          have Ny137 := Aside0.mk hy137
          clear hy137
          obtain ⟨y140, hy140⟩ : ∃ y_ : List Int, y_ = (([((IntKind.u64.wrap ((IntKind.u64.wrap ((l0.length : Int))) * 8)) / 72057594037927936) % 256, ((IntKind.u64.wrap ((IntKind.u64.wrap ((l0.length : Int))) * 8)) / 281474976710656) % 256, ((IntKind.u64.wrap ((IntKind.u64.wrap ((l0.length : Int))) * 8)) / 1099511627776) % 256, ((IntKind.u64.wrap ((IntKind.u64.wrap ((l0.length : Int))) * 8)) / 4294967296) % 256, ((IntKind.u64.wrap ((IntKind.u64.wrap ((l0.length : Int))) * 8)) / 16777216) % 256, ((IntKind.u64.wrap ((IntKind.u64.wrap ((l0.length : Int))) * 8)) / 65536) % 256, ((IntKind.u64.wrap ((IntKind.u64.wrap ((l0.length : Int))) * 8)) / 256) % 256, (IntKind.u64.wrap ((IntKind.u64.wrap ((l0.length : Int))) * 8)) % 256] : List Int)) := ⟨_, rfl⟩
          replace H : (if y137.length + y140.length < 140737488355328 then (some (y137 ++ y140)) else (none)) = some r := by first | (rw [hy140]; with_reducible exact H) | (have H2_ := (Option.bind_some _ _).symm.trans H; rw [hy140]; with_reducible exact H2_) | (have H2_ := (Option.bind_some _ _).symm.trans H; with_reducible exact H2_) | with_reducible exact H | (rw [hy140]; exact H) | exact H
          have Ny140 := Aside0.mk hy140
          clear hy140
          by_cases c7 : y137.length + y140.length < 140737488355328
          · rw [if_pos c7] at H
            have LMc7 := Aside0.mk c7
            clear c7
            obtain ⟨y143, hy143⟩ : ∃ y_ : List Int, y_ = (y137 ++ y140) := ⟨_, rfl⟩
            replace H : (some y143) = some r := by first | (rw [hy143]; with_reducible exact H) | (have H2_ := (Option.bind_some _ _).symm.trans H; rw [hy143]; with_reducible exact H2_) | (have H2_ := (Option.bind_some _ _).symm.trans H; with_reducible exact H2_) | with_reducible exact H | (rw [hy143]; exact H) | exact H
            have Ny143 := Aside0.mk hy143
            clear hy143
            obtain rfl := Option.some.inj H
            go_enter Try.func65, Try.ntmps65
            go_wp2_with (first | ((with_reducible refine gate_dst (N := 11) rfl ?_); refine Kd.R_lit (Kd.int .u8) _ 5 ?hg (N := 11) ?hd (xs := ([] : List Int)) (inner := []) (ok := fun _ => True) (okp := fun _ => True) ?hr ?hp (fun _ hk => hk) trivial (Below.refl _ _) (Nat.le_refl _) (by simp) ?_; (case hd => rfl); (case hg => rfl); (case hr => first | (go_simp; done) | (go_simp; rfl)); (case hp => exact (Reps.none _ _)); intro v129 w8 ho9 hb hg_ hnew_; clear hg_ hnew_; (first | rw [← Ny128.out] at ho9 | (simp only [Int.reduceToNat] at ho9; rw [← Ny128.out] at ho9)); have n0_ := Aside0.mk (Kd.R_lower ho9 (below_size (by repeat (first | (with_reducible first | exact HB.out | apply below_alloc | apply pw_below_drewN | apply below_drew1) | exact HB.out)))); have n1_ := Aside0.mk (below_step (by repeat (first | (with_reducible first | exact HB.out | apply below_alloc | apply pw_below_drewN | apply below_drew1) | exact HB.out)) hb); clear HB; have HO130 := n0_; have HB := n1_; clear n0_ n1_; clear hb ho9) | ((with_reducible refine gate_builtin (b := .append) (xs := #[.tmp 11, .tmp 12]) rfl ?_); at_builtin; refine Kd.R_append_rows (Kd.int .u8) (w0 := w) w.heap.size rfl (.tmp 11) (.tmp 12) 26 5 (.int .u8 0) 1 rfl Try.underlying26 info5 rfl (by decide) (by omega) v129 y128 l0 _ _ _ (fun _ => True) (fun _ => False) rfl rfl ?aO ?aR (fun _ _ h => h) (fun _ h => h.elim) ?aF ?aB ?aS ?aL ?_; (case aR => repeat (first | exact (Kd.C_below HR0.out HB.out) | (with_reducible refine Kd.C_alloc ?_ _) | (with_reducible refine Kd.C_drewN ?_ _) | (with_reducible refine Kd.C_drew ?_))); (case aB => exact (by repeat (first | (with_reducible first | exact HB.out | apply below_alloc | apply pw_below_drewN | apply below_drew1) | exact HB.out))); (case aF => exact (fun _ _ => trivial)); (case aO => exact (by (with_reducible repeat (first | apply Kd.R_alloc | apply Kd.R_drewN | apply Kd.R_drew)); exact HO130.out)); (case aS => exact (below_size (by repeat (first | (with_reducible first | exact HB.out | apply below_alloc | apply pw_below_drewN | apply below_drew1) | exact HB.out)))); (case aL => have := LMc2.out; omega); intro v132 w10 ho hb hg hat; rw [← Ny131.out] at ho; have n0_ := Aside0.mk (hb); have n1_ := Aside0.mk (ho); clear HB; clear HO130; have HB := n0_; have HO133 := n1_; clear n0_ n1_; clear ho hb hg hat) | ((with_reducible refine gate_builtin (b := .append) (xs := #[.tmp 13, .tmp 14]) rfl ?_); at_builtin; refine Kd.R_append (Kd.int .u8) (w0 := w) w.heap.size rfl (.tmp 13) (.tmp 14) 26 5 (.int .u8 0) 1 rfl Try.underlying26 info5 rfl (by decide) (by omega) v132 y131 128 [.int .u8 128] (fun _ => True) (fun _ => False) rfl rfl ?aP (fun _ hk => hk.elim) ?aF ?aO ?aB ?aS ?aL ?_; (case aP => exact rfl); (case aB => exact (by repeat (first | (with_reducible first | exact HB.out | apply below_alloc | apply pw_below_drewN | apply below_drew1) | exact HB.out))); (case aF => exact (fun _ _ => trivial)); (case aO => exact (by (with_reducible repeat (first | apply Kd.R_alloc | apply Kd.R_drewN | apply Kd.R_drew)); exact HO133.out)); (case aS => exact (below_size (by repeat (first | (with_reducible first | exact HB.out | apply below_alloc | apply pw_below_drewN | apply below_drew1) | exact HB.out)))); (case aL => have := LMc3.out; omega); intro v135 w11 ho hb hg hat; rw [← Ny134.out] at ho; have n0_ := Aside0.mk (hb); have n1_ := Aside0.mk (ho); clear HB; clear HO133; have HB := n0_; have HO136 := n1_; clear n0_ n1_; clear ho hb hg hat) | (at_builtin; refine Kd.R_append_zeros (Kd.int .u8) (w0 := w) w.heap.size rfl (.tmp 16) (.tmp 17) 26 3 5 (.int .u8 0) 1 rfl Try.underlying26 Try.underlying3 info5 rfl (by decide) (by omega) v135 y134 0 (ji4 : Int) (fun _ => True) rfl rfl rfl ?aF ?aO (of_decide_eq_true (by first | (with_reducible assumption) | assumption)) ?aB ?aS ?aL ?_; (case aB => exact (by repeat (first | (with_reducible first | exact HB.out | apply below_alloc | apply pw_below_drewN | apply below_drew1) | exact HB.out))); (case aF => exact (fun _ _ => trivial)); (case aO => exact (by (with_reducible repeat (first | apply Kd.R_alloc | apply Kd.R_drewN | apply Kd.R_drew)); exact HO136.out)); (case aS => exact (below_size (by repeat (first | (with_reducible first | exact HB.out | apply below_alloc | apply pw_below_drewN | apply below_drew1) | exact HB.out)))); (case aL => have := LMc6.out; omega); intro v138 w12 ho hb hg hat; rw [← Ny137.out] at ho; have n0_ := Aside0.mk (hb); have n1_ := Aside0.mk (ho); clear HB; clear HO136; have HB := n0_; have HO139 := n1_; clear n0_ n1_; clear ho hb hg hat) | ((with_reducible refine gate_dst (N := 47) rfl ?_); refine Kd.R_lit (Kd.int .u8) _ 5 ?hg (N := 47) ?hd (xs := ([((IntKind.u64.wrap ((IntKind.u64.wrap ((l0.length : Int))) * 8)) / 72057594037927936) % 256, ((IntKind.u64.wrap ((IntKind.u64.wrap ((l0.length : Int))) * 8)) / 281474976710656) % 256, ((IntKind.u64.wrap ((IntKind.u64.wrap ((l0.length : Int))) * 8)) / 1099511627776) % 256, ((IntKind.u64.wrap ((IntKind.u64.wrap ((l0.length : Int))) * 8)) / 4294967296) % 256, ((IntKind.u64.wrap ((IntKind.u64.wrap ((l0.length : Int))) * 8)) / 16777216) % 256, ((IntKind.u64.wrap ((IntKind.u64.wrap ((l0.length : Int))) * 8)) / 65536) % 256, ((IntKind.u64.wrap ((IntKind.u64.wrap ((l0.length : Int))) * 8)) / 256) % 256, (IntKind.u64.wrap ((IntKind.u64.wrap ((l0.length : Int))) * 8)) % 256] : List Int)) (inner := [.int .u8 (((IntKind.u64.wrap ((IntKind.u64.wrap ((l0.length : Int))) * 8)) / 72057594037927936) % 256), .int .u8 (((IntKind.u64.wrap ((IntKind.u64.wrap ((l0.length : Int))) * 8)) / 281474976710656) % 256), .int .u8 (((IntKind.u64.wrap ((IntKind.u64.wrap ((l0.length : Int))) * 8)) / 1099511627776) % 256), .int .u8 (((IntKind.u64.wrap ((IntKind.u64.wrap ((l0.length : Int))) * 8)) / 4294967296) % 256), .int .u8 (((IntKind.u64.wrap ((IntKind.u64.wrap ((l0.length : Int))) * 8)) / 16777216) % 256), .int .u8 (((IntKind.u64.wrap ((IntKind.u64.wrap ((l0.length : Int))) * 8)) / 65536) % 256), .int .u8 (((IntKind.u64.wrap ((IntKind.u64.wrap ((l0.length : Int))) * 8)) / 256) % 256), .int .u8 ((IntKind.u64.wrap ((IntKind.u64.wrap ((l0.length : Int))) * 8)) % 256)]) (ok := fun _ => True) (okp := fun _ => True) ?hr ?hp (fun _ hk => hk) trivial (Below.refl _ _) (Nat.le_refl _) (by simp) ?_; (case hd => rfl); (case hg => rfl); (case hr => first | (go_simp; done) | (go_simp; rfl)); (case hp => exact (Reps.one (show Kd.M (Kd.int .u8) _ _ _ (((IntKind.u64.wrap ((IntKind.u64.wrap ((l0.length : Int))) * 8)) / 72057594037927936) % 256) [.int .u8 (((IntKind.u64.wrap ((IntKind.u64.wrap ((l0.length : Int))) * 8)) / 72057594037927936) % 256)] from rfl) (Reps.one (show Kd.M (Kd.int .u8) _ _ _ (((IntKind.u64.wrap ((IntKind.u64.wrap ((l0.length : Int))) * 8)) / 281474976710656) % 256) [.int .u8 (((IntKind.u64.wrap ((IntKind.u64.wrap ((l0.length : Int))) * 8)) / 281474976710656) % 256)] from rfl) (Reps.one (show Kd.M (Kd.int .u8) _ _ _ (((IntKind.u64.wrap ((IntKind.u64.wrap ((l0.length : Int))) * 8)) / 1099511627776) % 256) [.int .u8 (((IntKind.u64.wrap ((IntKind.u64.wrap ((l0.length : Int))) * 8)) / 1099511627776) % 256)] from rfl) (Reps.one (show Kd.M (Kd.int .u8) _ _ _ (((IntKind.u64.wrap ((IntKind.u64.wrap ((l0.length : Int))) * 8)) / 4294967296) % 256) [.int .u8 (((IntKind.u64.wrap ((IntKind.u64.wrap ((l0.length : Int))) * 8)) / 4294967296) % 256)] from rfl) (Reps.one (show Kd.M (Kd.int .u8) _ _ _ (((IntKind.u64.wrap ((IntKind.u64.wrap ((l0.length : Int))) * 8)) / 16777216) % 256) [.int .u8 (((IntKind.u64.wrap ((IntKind.u64.wrap ((l0.length : Int))) * 8)) / 16777216) % 256)] from rfl) (Reps.one (show Kd.M (Kd.int .u8) _ _ _ (((IntKind.u64.wrap ((IntKind.u64.wrap ((l0.length : Int))) * 8)) / 65536) % 256) [.int .u8 (((IntKind.u64.wrap ((IntKind.u64.wrap ((l0.length : Int))) * 8)) / 65536) % 256)] from rfl) (Reps.one (show Kd.M (Kd.int .u8) _ _ _ (((IntKind.u64.wrap ((IntKind.u64.wrap ((l0.length : Int))) * 8)) / 256) % 256) [.int .u8 (((IntKind.u64.wrap ((IntKind.u64.wrap ((l0.length : Int))) * 8)) / 256) % 256)] from rfl) (Reps.one (show Kd.M (Kd.int .u8) _ _ _ ((IntKind.u64.wrap ((IntKind.u64.wrap ((l0.length : Int))) * 8)) % 256) [.int .u8 ((IntKind.u64.wrap ((IntKind.u64.wrap ((l0.length : Int))) * 8)) % 256)] from rfl) (Reps.none _ _)))))))))); intro v141 w13 ho14 hb hg_ hnew_; clear hg_ hnew_; (first | rw [← Ny140.out] at ho14 | (simp only [Int.reduceToNat] at ho14; rw [← Ny140.out] at ho14)); have n0_ := Aside0.mk (Kd.R_elder' (by (with_reducible repeat (first | apply Kd.R_alloc | apply Kd.R_drewN | apply Kd.R_drew)); exact HO139.out) (Kd.R_base ho14) hb); have n1_ := Aside0.mk (Kd.R_lower (Kd.R_new' ho14 (Kd.R_lt (by (with_reducible repeat (first | apply Kd.R_alloc | apply Kd.R_drewN | apply Kd.R_drew)); exact HO139.out))) (below_size (by repeat (first | (with_reducible first | exact HB.out | apply below_alloc | apply pw_below_drewN | apply below_drew1) | exact HB.out)))); have n2_ := Aside0.mk (below_step (by repeat (first | (with_reducible first | exact HB.out | apply below_alloc | apply pw_below_drewN | apply below_drew1) | exact HB.out)) hb); clear HO139; clear HB; have HO139 := n0_; have HO142 := n1_; have HB := n2_; clear n0_ n1_ n2_; clear hb ho14; obtain ⟨Ao16, co16, eo16⟩ := Kd.R_slice HO142.out; subst eo16) | ((with_reducible refine gate_builtin (b := .append) (xs := #[.tmp 23, .tmp 47]) rfl ?_); at_builtin; refine Kd.R_append_rows (Kd.int .u8) (w0 := w) w.heap.size rfl (.tmp 23) (.tmp 47) 26 5 (.int .u8 0) 1 rfl Try.underlying26 info5 rfl (by decide) (by omega) v138 y137 y140 _ _ _ (fun k_ => some k_ ≠ (.slice Ao16 y140.length co16 : Value).ownBlock) (fun _ => False) rfl rfl ?aO ?aR (fun _ _ h => h) (fun _ h => h.elim) ?aF ?aB ?aS ?aL ?_; (case aR => repeat (first | exact (Kd.R_reads' HO142.out).2.2 | (with_reducible refine Kd.C_alloc ?_ _) | (with_reducible refine Kd.C_drewN ?_ _) | (with_reducible refine Kd.C_drew ?_))); (case aB => exact (by repeat (first | (with_reducible first | exact HB.out | apply below_alloc | apply pw_below_drewN | apply below_drew1) | exact HB.out))); (case aF => exact (fun k_ hk => Kd.fresh' (Kd.R_lt (by (with_reducible repeat (first | apply Kd.R_alloc | apply Kd.R_drewN | apply Kd.R_drew)); exact HO142.out)) k_ hk)); (case aO => exact (by (with_reducible repeat (first | apply Kd.R_alloc | apply Kd.R_drewN | apply Kd.R_drew)); exact Kd.R_mono HO139.out (fun _ hk => hk.2))); (case aS => exact (below_size (by repeat (first | (with_reducible first | exact HB.out | apply below_alloc | apply pw_below_drewN | apply below_drew1) | exact HB.out)))); (case aL => have := LMc7.out; omega); intro v144 w15 ho hb hg hat; rw [← Ny143.out] at ho; have n0_ := Aside0.mk (Kd.R_after (ok := (fun _ => True)) (by (with_reducible repeat (first | apply Kd.R_alloc | apply Kd.R_drewN | apply Kd.R_drew)); exact HO142.out) hg hat); have n1_ := Aside0.mk (hb); have n2_ := Aside0.mk (ho); clear HO142; clear HB; clear HO139; have HO142 := n0_; have HB := n1_; have HO145 := n2_; clear n0_ n1_ n2_; clear ho hb hg hat))
            go_ret
            exact ⟨_, by first | rfl | (simp [errW_none, errW_some] <;> rfl) | (simp only [← hji4]; first | rfl | (simp [errW_none, errW_some] <;> rfl)) | (simp [*, errW_none, errW_some] <;> rfl), by (with_reducible repeat (first | apply Kd.R_alloc | apply Kd.R_drewN | apply Kd.R_drew)); exact Kd.R_mono HO145.out (fun _ hk => trivial), by repeat (first | (with_reducible first | exact HB.out | apply below_alloc | apply pw_below_drewN | apply below_drew1) | exact HB.out)⟩
          · rw [if_neg c7] at H
            exact absurd H (by simp)
        · rw [if_neg c6] at H
          exact absurd H (by simp)
      · rw [if_neg c5] at H
        exact absurd H (by simp)
    · rw [if_neg c3] at H
      exact absurd H (by simp)
  · rw [if_neg c2] at H
    exact absurd H (by simp)
def retconref02_constants.f  : Option (List Int) := some (((1116352408 :: 1899447441 :: 3049323471 :: 3921009573 :: 961987163 :: 1508970993 :: 2453635748 :: 2870763221 :: 3624381080 :: 310598401 :: 607225278 :: 1426881987 :: 1925078388 :: 2162078206 :: 2614888103 :: 3248222580 :: 3835390401 :: 4022224774 :: 264347078 :: 604807628 :: 770255983 :: 1249150122 :: 1555081692 :: 1996064986 :: 2554220882 :: 2821834349 :: 2952996808 :: 3210313671 :: 3336571891 :: 3584528711 :: 113926993 :: 338241895 :: 666307205 :: 773529912 :: 1294757372 :: 1396182291 :: 1695183700 :: 1986661051 :: 2177026350 :: 2456956037 :: 2730485921 :: 2820302411 :: 3259730800 :: 3345764771 :: 3516065817 :: 3600352804 :: 4094571909 :: 275423344 :: 430227734 :: 506948616 :: 659060556 :: 883997877 :: 958139571 :: 1322822218 :: 1537002063 :: 1747873779 :: 1955562222 :: 2024104815 :: 2227730452 :: 2361852424 :: 2428436474 :: 2756734187 :: 3204031479 :: 3329325298 :: []) : List Int))
set_option maxHeartbeats 8000000 in
set_option maxRecDepth 100000 in
theorem retconref02_constants.calls  (r : List Int) (w : World) (h : retconref02_constants.f  = some r) :
    Calls Try.prog 66 #[] w fun e w' => ∃ v0_ : Value, e = .returned (v0_) ∧ Kd.R (Kd.int .u32) 110 w' w.heap.size (fun _ => True) v0_ r ∧ Below w.heap.size w w' := by
  have HB := Aside0.mk (Below.refl w.heap.size w)
  have H : (some (((1116352408 :: 1899447441 :: 3049323471 :: 3921009573 :: 961987163 :: 1508970993 :: 2453635748 :: 2870763221 :: 3624381080 :: 310598401 :: 607225278 :: 1426881987 :: 1925078388 :: 2162078206 :: 2614888103 :: 3248222580 :: 3835390401 :: 4022224774 :: 264347078 :: 604807628 :: 770255983 :: 1249150122 :: 1555081692 :: 1996064986 :: 2554220882 :: 2821834349 :: 2952996808 :: 3210313671 :: 3336571891 :: 3584528711 :: 113926993 :: 338241895 :: 666307205 :: 773529912 :: 1294757372 :: 1396182291 :: 1695183700 :: 1986661051 :: 2177026350 :: 2456956037 :: 2730485921 :: 2820302411 :: 3259730800 :: 3345764771 :: 3516065817 :: 3600352804 :: 4094571909 :: 275423344 :: 430227734 :: 506948616 :: 659060556 :: 883997877 :: 958139571 :: 1322822218 :: 1537002063 :: 1747873779 :: 1955562222 :: 2024104815 :: 2227730452 :: 2361852424 :: 2428436474 :: 2756734187 :: 3204031479 :: 3329325298 :: []) : List Int))) = some r := h
  clear h
  obtain ⟨y146, hy146⟩ : ∃ y_ : List Int, y_ = (((1116352408 :: 1899447441 :: 3049323471 :: 3921009573 :: 961987163 :: 1508970993 :: 2453635748 :: 2870763221 :: 3624381080 :: 310598401 :: 607225278 :: 1426881987 :: 1925078388 :: 2162078206 :: 2614888103 :: 3248222580 :: 3835390401 :: 4022224774 :: 264347078 :: 604807628 :: 770255983 :: 1249150122 :: 1555081692 :: 1996064986 :: 2554220882 :: 2821834349 :: 2952996808 :: 3210313671 :: 3336571891 :: 3584528711 :: 113926993 :: 338241895 :: 666307205 :: 773529912 :: 1294757372 :: 1396182291 :: 1695183700 :: 1986661051 :: 2177026350 :: 2456956037 :: 2730485921 :: 2820302411 :: 3259730800 :: 3345764771 :: 3516065817 :: 3600352804 :: 4094571909 :: 275423344 :: 430227734 :: 506948616 :: 659060556 :: 883997877 :: 958139571 :: 1322822218 :: 1537002063 :: 1747873779 :: 1955562222 :: 2024104815 :: 2227730452 :: 2361852424 :: 2428436474 :: 2756734187 :: 3204031479 :: 3329325298 :: []) : List Int)) := ⟨_, rfl⟩
  replace H : (some y146) = some r := by first | (rw [hy146]; with_reducible exact H) | (have H2_ := (Option.bind_some _ _).symm.trans H; rw [hy146]; with_reducible exact H2_) | (have H2_ := (Option.bind_some _ _).symm.trans H; with_reducible exact H2_) | with_reducible exact H | (rw [hy146]; exact H) | exact H
  have Ny146 := Aside0.mk hy146
  clear hy146
  obtain rfl := Option.some.inj H
  go_enter Try.func66, Try.ntmps66
  go_wp2_with (first | ((with_reducible refine gate_dst (N := 1) rfl ?_); refine Kd.R_lit (Kd.int .u32) _ 110 ?hg (N := 1) ?hd (xs := ((1116352408 :: 1899447441 :: 3049323471 :: 3921009573 :: 961987163 :: 1508970993 :: 2453635748 :: 2870763221 :: 3624381080 :: 310598401 :: 607225278 :: 1426881987 :: 1925078388 :: 2162078206 :: 2614888103 :: 3248222580 :: 3835390401 :: 4022224774 :: 264347078 :: 604807628 :: 770255983 :: 1249150122 :: 1555081692 :: 1996064986 :: 2554220882 :: 2821834349 :: 2952996808 :: 3210313671 :: 3336571891 :: 3584528711 :: 113926993 :: 338241895 :: 666307205 :: 773529912 :: 1294757372 :: 1396182291 :: 1695183700 :: 1986661051 :: 2177026350 :: 2456956037 :: 2730485921 :: 2820302411 :: 3259730800 :: 3345764771 :: 3516065817 :: 3600352804 :: 4094571909 :: 275423344 :: 430227734 :: 506948616 :: 659060556 :: 883997877 :: 958139571 :: 1322822218 :: 1537002063 :: 1747873779 :: 1955562222 :: 2024104815 :: 2227730452 :: 2361852424 :: 2428436474 :: 2756734187 :: 3204031479 :: 3329325298 :: []) : List Int)) (inner := (.int .u32 1116352408 :: .int .u32 1899447441 :: .int .u32 3049323471 :: .int .u32 3921009573 :: .int .u32 961987163 :: .int .u32 1508970993 :: .int .u32 2453635748 :: .int .u32 2870763221 :: .int .u32 3624381080 :: .int .u32 310598401 :: .int .u32 607225278 :: .int .u32 1426881987 :: .int .u32 1925078388 :: .int .u32 2162078206 :: .int .u32 2614888103 :: .int .u32 3248222580 :: .int .u32 3835390401 :: .int .u32 4022224774 :: .int .u32 264347078 :: .int .u32 604807628 :: .int .u32 770255983 :: .int .u32 1249150122 :: .int .u32 1555081692 :: .int .u32 1996064986 :: .int .u32 2554220882 :: .int .u32 2821834349 :: .int .u32 2952996808 :: .int .u32 3210313671 :: .int .u32 3336571891 :: .int .u32 3584528711 :: .int .u32 113926993 :: .int .u32 338241895 :: .int .u32 666307205 :: .int .u32 773529912 :: .int .u32 1294757372 :: .int .u32 1396182291 :: .int .u32 1695183700 :: .int .u32 1986661051 :: .int .u32 2177026350 :: .int .u32 2456956037 :: .int .u32 2730485921 :: .int .u32 2820302411 :: .int .u32 3259730800 :: .int .u32 3345764771 :: .int .u32 3516065817 :: .int .u32 3600352804 :: .int .u32 4094571909 :: .int .u32 275423344 :: .int .u32 430227734 :: .int .u32 506948616 :: .int .u32 659060556 :: .int .u32 883997877 :: .int .u32 958139571 :: .int .u32 1322822218 :: .int .u32 1537002063 :: .int .u32 1747873779 :: .int .u32 1955562222 :: .int .u32 2024104815 :: .int .u32 2227730452 :: .int .u32 2361852424 :: .int .u32 2428436474 :: .int .u32 2756734187 :: .int .u32 3204031479 :: .int .u32 3329325298 :: [])) (ok := fun _ => True) (okp := fun _ => True) ?hr ?hp (fun _ hk => hk) trivial (Below.refl _ _) (Nat.le_refl _) (by simp) ?_; (case hd => rfl); (case hg => rfl); (case hr => first | (go_simp; done) | (go_simp; rfl)); (case hp => exact (Reps.one (show Kd.M (Kd.int .u32) _ _ _ 1116352408 [.int .u32 1116352408] from rfl) (Reps.one (show Kd.M (Kd.int .u32) _ _ _ 1899447441 [.int .u32 1899447441] from rfl) (Reps.one (show Kd.M (Kd.int .u32) _ _ _ 3049323471 [.int .u32 3049323471] from rfl) (Reps.one (show Kd.M (Kd.int .u32) _ _ _ 3921009573 [.int .u32 3921009573] from rfl) (Reps.one (show Kd.M (Kd.int .u32) _ _ _ 961987163 [.int .u32 961987163] from rfl) (Reps.one (show Kd.M (Kd.int .u32) _ _ _ 1508970993 [.int .u32 1508970993] from rfl) (Reps.one (show Kd.M (Kd.int .u32) _ _ _ 2453635748 [.int .u32 2453635748] from rfl) (Reps.one (show Kd.M (Kd.int .u32) _ _ _ 2870763221 [.int .u32 2870763221] from rfl) (Reps.one (show Kd.M (Kd.int .u32) _ _ _ 3624381080 [.int .u32 3624381080] from rfl) (Reps.one (show Kd.M (Kd.int .u32) _ _ _ 310598401 [.int .u32 310598401] from rfl) (Reps.one (show Kd.M (Kd.int .u32) _ _ _ 607225278 [.int .u32 607225278] from rfl) (Reps.one (show Kd.M (Kd.int .u32) _ _ _ 1426881987 [.int .u32 1426881987] from rfl) (Reps.one (show Kd.M (Kd.int .u32) _ _ _ 1925078388 [.int .u32 1925078388] from rfl) (Reps.one (show Kd.M (Kd.int .u32) _ _ _ 2162078206 [.int .u32 2162078206] from rfl) (Reps.one (show Kd.M (Kd.int .u32) _ _ _ 2614888103 [.int .u32 2614888103] from rfl) (Reps.one (show Kd.M (Kd.int .u32) _ _ _ 3248222580 [.int .u32 3248222580] from rfl) (Reps.one (show Kd.M (Kd.int .u32) _ _ _ 3835390401 [.int .u32 3835390401] from rfl) (Reps.one (show Kd.M (Kd.int .u32) _ _ _ 4022224774 [.int .u32 4022224774] from rfl) (Reps.one (show Kd.M (Kd.int .u32) _ _ _ 264347078 [.int .u32 264347078] from rfl) (Reps.one (show Kd.M (Kd.int .u32) _ _ _ 604807628 [.int .u32 604807628] from rfl) (Reps.one (show Kd.M (Kd.int .u32) _ _ _ 770255983 [.int .u32 770255983] from rfl) (Reps.one (show Kd.M (Kd.int .u32) _ _ _ 1249150122 [.int .u32 1249150122] from rfl) (Reps.one (show Kd.M (Kd.int .u32) _ _ _ 1555081692 [.int .u32 1555081692] from rfl) (Reps.one (show Kd.M (Kd.int .u32) _ _ _ 1996064986 [.int .u32 1996064986] from rfl) (Reps.one (show Kd.M (Kd.int .u32) _ _ _ 2554220882 [.int .u32 2554220882] from rfl) (Reps.one (show Kd.M (Kd.int .u32) _ _ _ 2821834349 [.int .u32 2821834349] from rfl) (Reps.one (show Kd.M (Kd.int .u32) _ _ _ 2952996808 [.int .u32 2952996808] from rfl) (Reps.one (show Kd.M (Kd.int .u32) _ _ _ 3210313671 [.int .u32 3210313671] from rfl) (Reps.one (show Kd.M (Kd.int .u32) _ _ _ 3336571891 [.int .u32 3336571891] from rfl) (Reps.one (show Kd.M (Kd.int .u32) _ _ _ 3584528711 [.int .u32 3584528711] from rfl) (Reps.one (show Kd.M (Kd.int .u32) _ _ _ 113926993 [.int .u32 113926993] from rfl) (Reps.one (show Kd.M (Kd.int .u32) _ _ _ 338241895 [.int .u32 338241895] from rfl) (Reps.one (show Kd.M (Kd.int .u32) _ _ _ 666307205 [.int .u32 666307205] from rfl) (Reps.one (show Kd.M (Kd.int .u32) _ _ _ 773529912 [.int .u32 773529912] from rfl) (Reps.one (show Kd.M (Kd.int .u32) _ _ _ 1294757372 [.int .u32 1294757372] from rfl) (Reps.one (show Kd.M (Kd.int .u32) _ _ _ 1396182291 [.int .u32 1396182291] from rfl) (Reps.one (show Kd.M (Kd.int .u32) _ _ _ 1695183700 [.int .u32 1695183700] from rfl) (Reps.one (show Kd.M (Kd.int .u32) _ _ _ 1986661051 [.int .u32 1986661051] from rfl) (Reps.one (show Kd.M (Kd.int .u32) _ _ _ 2177026350 [.int .u32 2177026350] from rfl) (Reps.one (show Kd.M (Kd.int .u32) _ _ _ 2456956037 [.int .u32 2456956037] from rfl) (Reps.one (show Kd.M (Kd.int .u32) _ _ _ 2730485921 [.int .u32 2730485921] from rfl) (Reps.one (show Kd.M (Kd.int .u32) _ _ _ 2820302411 [.int .u32 2820302411] from rfl) (Reps.one (show Kd.M (Kd.int .u32) _ _ _ 3259730800 [.int .u32 3259730800] from rfl) (Reps.one (show Kd.M (Kd.int .u32) _ _ _ 3345764771 [.int .u32 3345764771] from rfl) (Reps.one (show Kd.M (Kd.int .u32) _ _ _ 3516065817 [.int .u32 3516065817] from rfl) (Reps.one (show Kd.M (Kd.int .u32) _ _ _ 3600352804 [.int .u32 3600352804] from rfl) (Reps.one (show Kd.M (Kd.int .u32) _ _ _ 4094571909 [.int .u32 4094571909] from rfl) (Reps.one (show Kd.M (Kd.int .u32) _ _ _ 275423344 [.int .u32 275423344] from rfl) (Reps.one (show Kd.M (Kd.int .u32) _ _ _ 430227734 [.int .u32 430227734] from rfl) (Reps.one (show Kd.M (Kd.int .u32) _ _ _ 506948616 [.int .u32 506948616] from rfl) (Reps.one (show Kd.M (Kd.int .u32) _ _ _ 659060556 [.int .u32 659060556] from rfl) (Reps.one (show Kd.M (Kd.int .u32) _ _ _ 883997877 [.int .u32 883997877] from rfl) (Reps.one (show Kd.M (Kd.int .u32) _ _ _ 958139571 [.int .u32 958139571] from rfl) (Reps.one (show Kd.M (Kd.int .u32) _ _ _ 1322822218 [.int .u32 1322822218] from rfl) (Reps.one (show Kd.M (Kd.int .u32) _ _ _ 1537002063 [.int .u32 1537002063] from rfl) (Reps.one (show Kd.M (Kd.int .u32) _ _ _ 1747873779 [.int .u32 1747873779] from rfl) (Reps.one (show Kd.M (Kd.int .u32) _ _ _ 1955562222 [.int .u32 1955562222] from rfl) (Reps.one (show Kd.M (Kd.int .u32) _ _ _ 2024104815 [.int .u32 2024104815] from rfl) (Reps.one (show Kd.M (Kd.int .u32) _ _ _ 2227730452 [.int .u32 2227730452] from rfl) (Reps.one (show Kd.M (Kd.int .u32) _ _ _ 2361852424 [.int .u32 2361852424] from rfl) (Reps.one (show Kd.M (Kd.int .u32) _ _ _ 2428436474 [.int .u32 2428436474] from rfl) (Reps.one (show Kd.M (Kd.int .u32) _ _ _ 2756734187 [.int .u32 2756734187] from rfl) (Reps.one (show Kd.M (Kd.int .u32) _ _ _ 3204031479 [.int .u32 3204031479] from rfl) (Reps.one (show Kd.M (Kd.int .u32) _ _ _ 3329325298 [.int .u32 3329325298] from rfl) (Reps.none _ _)))))))))))))))))))))))))))))))))))))))))))))))))))))))))))))))))); intro v147 w1 ho2 hb hg_ hnew_; clear hg_ hnew_; (first | rw [← Ny146.out] at ho2 | (simp only [Int.reduceToNat] at ho2; rw [← Ny146.out] at ho2)); have n0_ := Aside0.mk (Kd.R_lower ho2 (below_size (by repeat (first | (with_reducible first | exact HB.out | apply below_alloc | apply pw_below_drewN | apply below_drew1) | exact HB.out)))); have n1_ := Aside0.mk (below_step (by repeat (first | (with_reducible first | exact HB.out | apply below_alloc | apply pw_below_drewN | apply below_drew1) | exact HB.out)) hb); clear HB; have HO148 := n0_; have HB := n1_; clear n0_ n1_; clear hb ho2))
  go_ret
  exact ⟨_, by first | rfl | (simp [errW_none, errW_some] <;> rfl) | (simp [*, errW_none, errW_some] <;> rfl), by (with_reducible repeat (first | apply Kd.R_alloc | apply Kd.R_drewN | apply Kd.R_drew)); exact HO148.out, by repeat (first | (with_reducible first | exact HB.out | apply below_alloc | apply pw_below_drewN | apply below_drew1) | exact HB.out)⟩
def retconref02_r.f (a0 : Int) (a1 : Int) : Option (Int) := if 0 ≤ (wrap64 (32 - a1)) then (if 0 ≤ a1 then (some (Go.bits .or .u32 (shl .u32 a0 (wrap64 (32 - a1))) (shr .u32 a0 a1))) else (none)) else (none)
set_option maxHeartbeats 8000000 in
set_option maxRecDepth 100000 in
theorem retconref02_r.calls (a0 : Int) (a1 : Int) (r : Int) (w : World) (h : retconref02_r.f a0 a1 = some r) :
    Calls Try.prog 84 #[.int .u32 a0, .int .i64 a1] w fun e w' => e = .returned (.int .u32 r) ∧ Drawn0 w w' := by
  have H : (if 0 ≤ (wrap64 (32 - a1)) then (if 0 ≤ a1 then (some (Go.bits .or .u32 (shl .u32 a0 (wrap64 (32 - a1))) (shr .u32 a0 a1))) else (none)) else (none)) = some r := h
  clear h
  obtain ⟨ji3, hji3⟩ : ∃ j_ : Int, (wrap64 (32 - a1)) = j_ := ⟨_, rfl⟩
  replace H : (if 0 ≤ (ji3) then (if 0 ≤ a1 then (some (Go.bits .or .u32 (shl .u32 a0 (ji3)) (shr .u32 a0 a1))) else (none)) else (none)) = some r := by first | (rw [hji3] at H; exact H) | (simp only [hji3] at H ⊢; exact H)
  have hji3w : (IntKind.i64.wrap (32 - a1)) = ji3 := (i64_w _).trans hji3
  by_cases c4 : 0 ≤ (ji3)
  · rw [if_pos c4] at H
    have c4b0 := eq_true c4
    have c4b1 : decide (0 ≤ (ji3)) = true := decide_eq_true c4
    clear c4
    obtain ⟨ji5, hji5⟩ : ∃ j_ : Int, (shl .u32 a0 (ji3)) = j_ := ⟨_, rfl⟩
    replace H : (if 0 ≤ a1 then (some (Go.bits .or .u32 (ji5) (shr .u32 a0 a1))) else (none)) = some r := by first | (rw [hji5] at H; exact H) | (simp only [hji5] at H ⊢; exact H)
    have hji5_ : (IntKind.u32.wrap (a0 * 2 ^ min (ji3).toNat 32)) = ji5 := hji5
    have hji5z : (ji3) ≤ 32 → (IntKind.u32.wrap (a0 * 2 ^ (ji3).toNat)) = ji5 := shl_small hji5
    by_cases c6 : 0 ≤ a1
    · rw [if_pos c6] at H
      have c6b0 := eq_true c6
      have c6b1 : decide (0 ≤ a1) = true := decide_eq_true c6
      clear c6
      obtain ⟨ji7, hji7⟩ : ∃ j_ : Int, (shr .u32 a0 a1) = j_ := ⟨_, rfl⟩
      replace H : (some (Go.bits .or .u32 (ji5) (ji7))) = some r := by first | (rw [hji7] at H; exact H) | (simp only [hji7] at H ⊢; exact H)
      have hji7_ : (a0 / 2 ^ min a1.toNat 32) = ji7 := hji7
      have hji7z : a1 ≤ 32 → (a0 / 2 ^ a1.toNat) = ji7 := shr_small hji7
      obtain rfl := Option.some.inj H
      go_enter Try.func84, Try.ntmps84
      go_wp2
      repeat (go_quiet (fail); try go_wp2)
      go_ret
      exact ⟨by first | rfl | (simp; done) | (simp only [← hji3, ← hji5, ← hji7] <;> (first | rfl | simp)) | (simp [*]; done), by repeat (first | exact Drawn0.refl _ | apply Drawn0.step)⟩
    · rw [if_neg c6] at H
      exact absurd H (by simp)
  · rw [if_neg c4] at H
    exact absurd H (by simp)
def retconref02_lowerQ.f (a0 : Int) : Option (Int) := (retconref02_r.f a0 17).bind fun t149 => ((retconref02_r.f a0 19).bind fun t150 => (some (Go.bits .xor .u32 (Go.bits .xor .u32 t149 t150) (a0 / 1024))))
set_option maxHeartbeats 8000000 in
set_option maxRecDepth 100000 in
theorem retconref02_lowerQ.calls (a0 : Int) (r : Int) (w : World) (h : retconref02_lowerQ.f a0 = some r) :
    Calls Try.prog 82 #[.int .u32 a0] w fun e w' => e = .returned (.int .u32 r) ∧ Drawn0 w w' := by
  have H : ((retconref02_r.f a0 17).bind fun t149 => ((retconref02_r.f a0 19).bind fun t150 => (some (Go.bits .xor .u32 (Go.bits .xor .u32 t149 t150) (a0 / 1024))))) = some r := h
  clear h
  replace H := Option.bind_eq_some_iff.mp H
  obtain ⟨t149, A20, H⟩ := H
  replace H : ((retconref02_r.f a0 19).bind fun t150 => (some (Go.bits .xor .u32 (Go.bits .xor .u32 t149 t150) (a0 / 1024)))) = some r := H
  have A2 := Aside0.mk A20
  clear A20
  replace H := Option.bind_eq_some_iff.mp H
  obtain ⟨t150, A30, H⟩ := H
  replace H : (some (Go.bits .xor .u32 (Go.bits .xor .u32 t149 t150) (a0 / 1024))) = some r := H
  have A3 := Aside0.mk A30
  clear A30
  obtain rfl := Option.some.inj H
  go_enter Try.func82, Try.ntmps82
  go_wp2_with (first | ((with_reducible refine gate_callee (f := 84) rfl ?_); refine goesL_ (some 4) rfl rfl Try.func84 (by kernel_rfl) rfl #[.int .u32 a0, .int .i64 17] rfl (by (try simp only [List.map_toArray, List.map_cons, List.map_nil]); first | done | rfl | (simp only [List.length_drop, List.length_take]; rfl)) ?_; (with_reducible refine (retconref02_r.calls a0 17 t149 _ A2.out).mono ?_); rintro e w' ⟨rfl, ⟨nd, rfl⟩⟩; refine ⟨_, rfl, ?_⟩) | ((with_reducible refine gate_callee (f := 84) rfl ?_); refine goesL_ (some 6) rfl rfl Try.func84 (by kernel_rfl) rfl #[.int .u32 a0, .int .i64 19] rfl (by (try simp only [List.map_toArray, List.map_cons, List.map_nil]); first | done | rfl | (simp only [List.length_drop, List.length_take]; rfl)) ?_; (with_reducible refine (retconref02_r.calls a0 19 t150 _ A3.out).mono ?_); rintro e w' ⟨rfl, ⟨nd, rfl⟩⟩; refine ⟨_, rfl, ?_⟩))
  go_ret
  exact ⟨by first | rfl | (simp; done) | (simp [*]; done), by repeat (first | exact Drawn0.refl _ | apply Drawn0.step)⟩
def retconref02_lowerP.f (a0 : Int) : Option (Int) := (retconref02_r.f a0 7).bind fun t151 => ((retconref02_r.f a0 18).bind fun t152 => (some (Go.bits .xor .u32 (Go.bits .xor .u32 t151 t152) (a0 / 8))))
set_option maxHeartbeats 8000000 in
set_option maxRecDepth 100000 in
theorem retconref02_lowerP.calls (a0 : Int) (r : Int) (w : World) (h : retconref02_lowerP.f a0 = some r) :
    Calls Try.prog 83 #[.int .u32 a0] w fun e w' => e = .returned (.int .u32 r) ∧ Drawn0 w w' := by
  have H : ((retconref02_r.f a0 7).bind fun t151 => ((retconref02_r.f a0 18).bind fun t152 => (some (Go.bits .xor .u32 (Go.bits .xor .u32 t151 t152) (a0 / 8))))) = some r := h
  clear h
  replace H := Option.bind_eq_some_iff.mp H
  obtain ⟨t151, A20, H⟩ := H
  replace H : ((retconref02_r.f a0 18).bind fun t152 => (some (Go.bits .xor .u32 (Go.bits .xor .u32 t151 t152) (a0 / 8)))) = some r := H
  have A2 := Aside0.mk A20
  clear A20
  replace H := Option.bind_eq_some_iff.mp H
  obtain ⟨t152, A30, H⟩ := H
  replace H : (some (Go.bits .xor .u32 (Go.bits .xor .u32 t151 t152) (a0 / 8))) = some r := H
  have A3 := Aside0.mk A30
  clear A30
  obtain rfl := Option.some.inj H
  go_enter Try.func83, Try.ntmps83
  go_wp2_with (first | ((with_reducible refine gate_callee (f := 84) rfl ?_); refine goesL_ (some 4) rfl rfl Try.func84 (by kernel_rfl) rfl #[.int .u32 a0, .int .i64 7] rfl (by (try simp only [List.map_toArray, List.map_cons, List.map_nil]); first | done | rfl | (simp only [List.length_drop, List.length_take]; rfl)) ?_; (with_reducible refine (retconref02_r.calls a0 7 t151 _ A2.out).mono ?_); rintro e w' ⟨rfl, ⟨nd, rfl⟩⟩; refine ⟨_, rfl, ?_⟩) | ((with_reducible refine gate_callee (f := 84) rfl ?_); refine goesL_ (some 6) rfl rfl Try.func84 (by kernel_rfl) rfl #[.int .u32 a0, .int .i64 18] rfl (by (try simp only [List.map_toArray, List.map_cons, List.map_nil]); first | done | rfl | (simp only [List.length_drop, List.length_take]; rfl)) ?_; (with_reducible refine (retconref02_r.calls a0 18 t152 _ A3.out).mono ?_); rintro e w' ⟨rfl, ⟨nd, rfl⟩⟩; refine ⟨_, rfl, ?_⟩))
  go_ret
  exact ⟨by first | rfl | (simp; done) | (simp [*]; done), by repeat (first | exact Drawn0.refl _ | apply Drawn0.step)⟩
mutual
def retconref02_schedule.l0 : Nat → List Int → List Int → Int → Option (List Int)
  | 0, _, _, _ => none
  | k + 1, x0, x3, x4 => if x4 < 64 then (if x4 < 16 then (retconref02_schedule.l1 k x0 x3 x4 0 0) else (if 0 ≤ (wrap64 (x4 - 2)) then (if (wrap64 (x4 - 2)) < (x3.length : Int) then ((retconref02_lowerQ.f (rd x3 (wrap64 (x4 - 2)))).bind fun t158 => (if 0 ≤ (wrap64 (x4 - 7)) then (if (wrap64 (x4 - 7)) < (x3.length : Int) then (if 0 ≤ (wrap64 (x4 - 15)) then (if (wrap64 (x4 - 15)) < (x3.length : Int) then ((retconref02_lowerP.f (rd x3 (wrap64 (x4 - 15)))).bind fun t161 => (if 0 ≤ (wrap64 (x4 - 16)) then (if (wrap64 (x4 - 16)) < (x3.length : Int) then (if x3.length < 35184372088832 then (retconref02_schedule.l0 k x0 (x3 ++ [(((((t158 + (rd x3 (wrap64 (x4 - 7)))) % 4294967296) + t161) % 4294967296) + (rd x3 (wrap64 (x4 - 16)))) % 4294967296]) (wrap64 (x4 + 1))) else (none)) else (none)) else (none))) else (none)) else (none)) else (none)) else (none))) else (none)) else (none))) else (some x3)
def retconref02_schedule.l1 : Nat → List Int → List Int → Int → Int → Int → Option (List Int)
  | 0, _, _, _, _, _ => none
  | k + 1, x0, x3, x4, x5, x6 => if x6 < 4 then (if 0 ≤ (wrap64 ((wrap64 (4 * x4)) + x6)) then (if (wrap64 ((wrap64 (4 * x4)) + x6)) < (x0.length : Int) then (retconref02_schedule.l1 k x0 x3 x4 ((((x5 * 256) % 4294967296) + ((rd x0 (wrap64 ((wrap64 (4 * x4)) + x6))) % 4294967296)) % 4294967296) (wrap64 (x6 + 1))) else (none)) else (none)) else (if x3.length < 35184372088832 then (retconref02_schedule.l0 k x0 (x3 ++ [x5]) (wrap64 (x4 + 1))) else (none))
end
def retconref02_schedule.f (k : Nat) (l0 : List Int) : Option (List Int) := retconref02_schedule.l0 k l0 ([] : List Int) 0
theorem retconref02_schedule.mono_l : ∀ k, (∀ y0 y1 y2, LeO (retconref02_schedule.l0 k y0 y1 y2) (retconref02_schedule.l0 (k + 1) y0 y1 y2)) ∧ (∀ y0 y1 y2 y3 y4, LeO (retconref02_schedule.l1 k y0 y1 y2 y3 y4) (retconref02_schedule.l1 (k + 1) y0 y1 y2 y3 y4))
  | 0 => ⟨fun _ _ _ r h => by simp [retconref02_schedule.l0] at h, fun _ _ _ _ _ r h => by simp [retconref02_schedule.l1] at h⟩
  | k + 1 => by
    obtain ⟨ih0, ih1⟩ := retconref02_schedule.mono_l k
    refine ⟨?_, ?_⟩
    · intro y0 y1 y2
      unfold retconref02_schedule.l0
      repeat' first
      | (with_reducible exact ih0 _ _ _)
      | (with_reducible exact ih1 _ _ _ _ _)
      | (with_reducible exact LeO.refl _)
      | (with_reducible exact LeO.none _)
      | (with_reducible refine LeO.ite ?_ ?_)
      | (with_reducible refine LeO.bind ?_ (fun _ => ?_))
      | exact ih0 _ _ _
      | exact ih1 _ _ _ _ _
      | exact LeO.none _
      | refine LeO.ite ?_ ?_
      | refine LeO.bind ?_ (fun _ => ?_)
    · intro y0 y1 y2 y3 y4
      unfold retconref02_schedule.l1
      repeat' first
      | (with_reducible exact ih0 _ _ _)
      | (with_reducible exact ih1 _ _ _ _ _)
      | (with_reducible exact LeO.refl _)
      | (with_reducible exact LeO.none _)
      | (with_reducible refine LeO.ite ?_ ?_)
      | (with_reducible refine LeO.bind ?_ (fun _ => ?_))
      | exact ih0 _ _ _
      | exact ih1 _ _ _ _ _
      | exact LeO.none _
      | refine LeO.ite ?_ ?_
      | refine LeO.bind ?_ (fun _ => ?_)
theorem retconref02_schedule.mono : ∀ a0 k, LeO (retconref02_schedule.f k a0) (retconref02_schedule.f (k + 1) a0) := by
  intro a0 k
  obtain ⟨ih0, ih1⟩ := retconref02_schedule.mono_l k
  unfold retconref02_schedule.f
  repeat' first
      | (with_reducible exact ih0 _ _ _)
      | (with_reducible exact ih1 _ _ _ _ _)
      | (with_reducible exact LeO.refl _)
      | (with_reducible exact LeO.none _)
      | (with_reducible refine LeO.ite ?_ ?_)
      | (with_reducible refine LeO.bind ?_ (fun _ => ?_))
      | exact ih0 _ _ _
      | exact ih1 _ _ _ _ _
      | exact LeO.none _
      | refine LeO.ite ?_ ?_
      | refine LeO.bind ?_ (fun _ => ?_)
def retconref02_schedule.T12 : Bool × List (List Nat × List Nat) := (true, (([], []) :: ([], []) :: ([], []) :: ([2], [2]) :: ([1, 3], [1, 3]) :: ([4], [4]) :: ([5], [5]) :: ([], []) :: ([], []) :: ([8], [8]) :: ([7, 9], [7, 9]) :: ([10], [10]) :: ([6, 11], [6, 11]) :: ([], []) :: ([], []) :: ([14], [14]) :: ([13, 15], [13, 15]) :: ([16], [16]) :: ([17, 6], [17]) :: ([12, 18], [12, 18]) :: ([], []) :: ([], []) :: ([21], [21]) :: ([20, 22], [20, 22]) :: ([23], [23]) :: ([19, 24], [19, 24]) :: ([25], [25]) :: ([0, 26, 18], [0, 26]) :: ((27 :: 27 :: 0 :: 1 :: 2 :: 3 :: 4 :: 5 :: 6 :: 7 :: 8 :: 9 :: 10 :: 11 :: 12 :: 13 :: 14 :: 15 :: 16 :: 17 :: 18 :: 19 :: 20 :: 21 :: 22 :: 23 :: 24 :: 25 :: 26 :: 27 :: []), [0, 1, 7, 13, 20, 27]) :: []))
def retconref02_schedule.B12 : List Nat := (0 :: 0 :: 0 :: 4 :: 14 :: 30 :: 62 :: 0 :: 0 :: 256 :: 896 :: 1920 :: 4094 :: 0 :: 0 :: 16384 :: 57344 :: 122880 :: 254078 :: 524286 :: 0 :: 0 :: 2097152 :: 7340032 :: 15728640 :: 33554430 :: 67108862 :: 134217727 :: 268435455 :: [])
theorem retconref02_schedule.tab12 : rtab .any (opsOf Try.f75 12) = retconref02_schedule.T12 := by kernel_rfl
theorem retconref02_schedule.bits12 : waitsOk retconref02_schedule.T12.2 retconref02_schedule.B12 = true := by kernel_rfl
set_option maxHeartbeats 8000000 in
set_option maxRecDepth 100000 in
theorem retconref02_schedule.calls (k : Nat) (A0 : Option Addr) (c0 : Nat) (l0 : List Int) (r : List Int) (w : World) (hr0 : Kd.C (Kd.int .u8) w A0 l0.length l0) (hc0 : l0.length ≤ c0) (h : retconref02_schedule.f k l0 = some r) :
    Calls Try.prog 75 #[.slice A0 l0.length c0] w fun e w' => ∃ v0_ : Value, e = .returned (v0_) ∧ Kd.R (Kd.int .u32) 110 w' w.heap.size (fun _ => True) v0_ r ∧ Below w.heap.size w w' := by
  have HR0 := Aside0.mk hr0
  have HC0 := Aside0.mk hc0
  clear hr0 hc0
  have HB := Aside0.mk (Below.refl w.heap.size w)
  have H : (retconref02_schedule.l0 k l0 ([] : List Int) 0) = some r := h
  clear h
  have H' := Aside0.mk H
  clear H
  go_enter Try.func75, Try.ntmps75
  go_wp2
  go_loopg [3, 4] k (fun kq v3 v4 w' => ∃ (x3_1 : List Int) (x4_1 : Int), v4 = .int .i64 x4_1 ∧ Aside0 (retconref02_schedule.l0 kq l0 x3_1 x4_1 = some r) ∧ Aside0 (kq ≤ k) ∧ Aside0 (Kd.R (Kd.int .u32) 110 w' w.heap.size (fun _ => True) v3 x3_1) ∧ Aside0 (Below w.heap.size w w'))
  case atStart => exact ⟨(([] : List Int)), (0), (by first | rfl | (simp; done) | (simp [*]; done)), H', ⟨Nat.le_refl _⟩, ⟨by first | exact Kd.R_nil _ _ _ _ _ | exact Kd.N_nil _ _ _ _ _ | exact Kd.V_nil _ _ _ _ _ | exact Kd.Q_nil _ _ _ _ _ | exact Kd.S_nil _ _ _ _ _⟩, ⟨by repeat (first | (with_reducible first | exact HB.out | apply below_alloc | apply pw_below_drewN | apply below_drew1) | exact HB.out)⟩⟩
  case round =>
    clear H'
    obtain ⟨x3_1, x4_1, rfl, HA, HK1, HO_3, HB⟩ := hrel
    cases gk with
    | zero => exact absurd HA.out (by simp [retconref02_schedule.l0])
    | succ k1 =>
      have H := HA.out
      clear HA
      simp only [retconref02_schedule.l0] at H
      by_cases c2 : x4_1 < 64
      · rw [if_pos c2] at H
        have c2b0 : decide (x4_1 < 64) = true := decide_eq_true c2
        clear c2
        by_cases c3 : x4_1 < 16
        · rw [if_pos c3] at H
          have c3b0 : decide (x4_1 < 16) = true := decide_eq_true c3
          clear c3
          have H' := Aside0.mk H
          clear H
          go_wp2
          go_loopg [5, 6] k1 (fun kq v5 v6 w' => ∃ (x5_2 : Int) (x6_2 : Int), v5 = .int .u32 x5_2 ∧ v6 = .int .i64 x6_2 ∧ Aside0 (retconref02_schedule.l1 kq l0 x3_1 x4_1 x5_2 x6_2 = some r) ∧ Aside0 (kq ≤ k1) ∧ Aside0 (Kd.R (Kd.int .u32) 110 w' w.heap.size (fun _ => True) u3 x3_1) ∧ Aside0 (Below w.heap.size w w'))
          case atStart => exact ⟨(0), (0), (by first | rfl | (simp; done) | (simp [*]; done)), (by first | rfl | (simp; done) | (simp [*]; done)), H', ⟨Nat.le_refl _⟩, ⟨by (with_reducible repeat (first | apply Kd.R_alloc | apply Kd.R_drewN | apply Kd.R_drew)); exact HO_3.out⟩, ⟨by repeat (first | (with_reducible first | exact HB.out | apply below_alloc | apply pw_below_drewN | apply below_drew1) | exact HB.out)⟩⟩
          case round =>
            clear H'
            try clear c2
            try clear c2b0
            try clear p2
            try clear c3
            try clear c3b0
            obtain ⟨x5_2, x6_2, rfl, rfl, HA, HK2, HO_3, HB⟩ := hrel
            cases gk with
            | zero => exact absurd HA.out (by simp [retconref02_schedule.l1])
            | succ k2 =>
              have H := HA.out
              clear HA
              simp only [retconref02_schedule.l1] at H
              by_cases c4 : x6_2 < 4
              · rw [if_pos c4] at H
                have c4b0 : decide (x6_2 < 4) = true := decide_eq_true c4
                clear c4
                obtain ⟨ji5, hji5⟩ : ∃ j_ : Int, (wrap64 ((wrap64 (4 * x4_1)) + x6_2)) = j_ := ⟨_, rfl⟩
                replace H : (if 0 ≤ (ji5) then (if (ji5) < (l0.length : Int) then (retconref02_schedule.l1 k2 l0 x3_1 x4_1 ((((x5_2 * 256) % 4294967296) + ((rd l0 (ji5)) % 4294967296)) % 4294967296) (wrap64 (x6_2 + 1))) else (none)) else (none)) = some r := by first | (rw [hji5] at H; exact H) | (simp only [hji5] at H ⊢; exact H)
                have hji5w : (IntKind.i64.wrap ((wrap64 (4 * x4_1)) + x6_2)) = ji5 := (i64_w _).trans hji5
                by_cases c6 : 0 ≤ (ji5)
                · rw [if_pos c6] at H
                  have c6b0 : decide (0 ≤ (ji5)) = true := decide_eq_true c6
                  clear c6
                  by_cases c7 : (ji5) < (l0.length : Int)
                  · rw [if_pos c7] at H
                    have c7b0 : decide ((ji5) < (l0.length : Int)) = true := decide_eq_true c7
                    clear c7
                    have H' := Aside0.mk H
                    clear H
                    have p153 : 0 ≤ ((ji5) : Int) := of_decide_eq_true (by first | (with_reducible assumption) | assumption)
                    have q153 : (ji5) < (l0.length : Int) := of_decide_eq_true (by first | (with_reducible assumption) | assumption)
                    obtain ⟨ad153, e153, hx153_0⟩ := Kd.at_int HR0.out (ji5) p153 q153
                    cases e153
                    replace hx153_0 := (HB.out.cell (World.block_lt_of_cell? w _ hx153_0)).trans hx153_0
                    replace p153 := eq_true p153
                    replace q153 := eq_true q153
                    go_wp2
                    go_roundg k2
                    case measure => have := HK1.out; have := HK2.out; omega
                    case rel => exact ⟨((((x5_2 * 256) % 4294967296) + ((rd l0 (ji5)) % 4294967296)) % 4294967296), (wrap64 (x6_2 + 1)), (by first | rfl | (simp; done) | (simp only [← hji5] <;> (first | rfl | simp)) | (simp [*]; done)), (by first | rfl | (simp; done) | (simp [*]; done)), H', ⟨by have := HK1.out; have := HK2.out; omega⟩, ⟨by (with_reducible repeat (first | apply Kd.R_alloc | apply Kd.R_drewN | apply Kd.R_drew)); exact HO_3.out⟩, ⟨by repeat (first | (with_reducible first | exact HB.out | apply below_alloc | apply pw_below_drewN | apply below_drew1) | exact HB.out)⟩⟩
                  · rw [if_neg c7] at H
                    exact absurd H (by simp)
                · rw [if_neg c6] at H
                  exact absurd H (by simp)
              · rw [if_neg c4] at H
                have c4b0 : decide (x6_2 < 4) = false := decide_eq_false c4
                clear c4
                by_cases c8 : x3_1.length < 35184372088832
                · rw [if_pos c8] at H
                  have LMc8 := Aside0.mk c8
                  clear c8
                  obtain ⟨y154, hy154⟩ : ∃ y_ : List Int, y_ = (x3_1 ++ [x5_2]) := ⟨_, rfl⟩
                  replace H : (retconref02_schedule.l0 k2 l0 y154 (wrap64 (x4_1 + 1))) = some r := by first | (rw [hy154]; with_reducible exact H) | (have H2_ := (Option.bind_some _ _).symm.trans H; rw [hy154]; with_reducible exact H2_) | (have H2_ := (Option.bind_some _ _).symm.trans H; with_reducible exact H2_) | with_reducible exact H | (rw [hy154]; exact H) | exact H
                  have Ny154 := Aside0.mk hy154
                  clear hy154
                  have H' := Aside0.mk H
                  clear H
                  go_wp2_with (first | ((with_reducible refine gate_builtin (b := .append) (xs := #[.tmp 28, .tmp 30]) rfl ?_); at_builtin; refine Kd.R_append (Kd.int .u32) (w0 := w) w.heap.size rfl (.tmp 28) (.tmp 30) 113 110 (.int .u32 0) 4 rfl Try.underlying113 info110 rfl (by decide) (by omega) u3 x3_1 x5_2 [.int .u32 x5_2] (fun _ => True) (fun _ => False) rfl rfl ?aP (fun _ hk => hk.elim) ?aF ?aO ?aB ?aS ?aL ?_; (case aP => exact rfl); (case aB => exact (by repeat (first | (with_reducible first | exact HB.out | apply below_alloc | apply pw_below_drewN | apply below_drew1) | exact HB.out))); (case aF => exact (fun _ _ => trivial)); (case aO => exact (by (with_reducible repeat (first | apply Kd.R_alloc | apply Kd.R_drewN | apply Kd.R_drew)); exact HO_3.out)); (case aS => exact (below_size (by repeat (first | (with_reducible first | exact HB.out | apply below_alloc | apply pw_below_drewN | apply below_drew1) | exact HB.out)))); (case aL => have := LMc8.out; omega); intro v155 w9 ho hb hg hat; rw [← Ny154.out] at ho; have n0_ := Aside0.mk (hb); have n1_ := Aside0.mk (ho); clear HB; clear HO_3; have HB := n0_; have HO156 := n1_; clear n0_ n1_; clear ho hb hg hat))
                  go_roundg k2
                  case measure => have := HK1.out; have := HK2.out; omega
                  case rel => exact ⟨(y154), (wrap64 (x4_1 + 1)), (by first | rfl | (simp; done) | (simp [*]; done)), H', ⟨by have := HK1.out; have := HK2.out; omega⟩, ⟨by (with_reducible repeat (first | apply Kd.R_alloc | apply Kd.R_drewN | apply Kd.R_drew)); exact HO156.out⟩, ⟨by repeat (first | (with_reducible first | exact HB.out | apply below_alloc | apply pw_below_drewN | apply below_drew1) | exact HB.out)⟩⟩
                · rw [if_neg c8] at H
                  exact absurd H (by simp)
        · rw [if_neg c3] at H
          have c3b0 : decide (x4_1 < 16) = false := decide_eq_false c3
          clear c3
          obtain ⟨ji10, hji10⟩ : ∃ j_ : Int, (wrap64 (x4_1 - 2)) = j_ := ⟨_, rfl⟩
          replace H : (if 0 ≤ (ji10) then (if (ji10) < (x3_1.length : Int) then ((retconref02_lowerQ.f (rd x3_1 (ji10))).bind fun t158 => (if 0 ≤ (wrap64 (x4_1 - 7)) then (if (wrap64 (x4_1 - 7)) < (x3_1.length : Int) then (if 0 ≤ (wrap64 (x4_1 - 15)) then (if (wrap64 (x4_1 - 15)) < (x3_1.length : Int) then ((retconref02_lowerP.f (rd x3_1 (wrap64 (x4_1 - 15)))).bind fun t161 => (if 0 ≤ (wrap64 (x4_1 - 16)) then (if (wrap64 (x4_1 - 16)) < (x3_1.length : Int) then (if x3_1.length < 35184372088832 then (retconref02_schedule.l0 k1 l0 (x3_1 ++ [(((((t158 + (rd x3_1 (wrap64 (x4_1 - 7)))) % 4294967296) + t161) % 4294967296) + (rd x3_1 (wrap64 (x4_1 - 16)))) % 4294967296]) (wrap64 (x4_1 + 1))) else (none)) else (none)) else (none))) else (none)) else (none)) else (none)) else (none))) else (none)) else (none)) = some r := by first | (rw [hji10] at H; exact H) | (simp only [hji10] at H ⊢; exact H)
          have hji10w : (IntKind.i64.wrap (x4_1 - 2)) = ji10 := (i64_w _).trans hji10
          by_cases c11 : 0 ≤ (ji10)
          · rw [if_pos c11] at H
            have c11b0 : decide (0 ≤ (ji10)) = true := decide_eq_true c11
            clear c11
            by_cases c12 : (ji10) < (x3_1.length : Int)
            · rw [if_pos c12] at H
              have c12b0 : decide ((ji10) < (x3_1.length : Int)) = true := decide_eq_true c12
              clear c12
              replace H := Option.bind_eq_some_iff.mp H
              obtain ⟨t158, A130, H⟩ := H
              replace H : (if 0 ≤ (wrap64 (x4_1 - 7)) then (if (wrap64 (x4_1 - 7)) < (x3_1.length : Int) then (if 0 ≤ (wrap64 (x4_1 - 15)) then (if (wrap64 (x4_1 - 15)) < (x3_1.length : Int) then ((retconref02_lowerP.f (rd x3_1 (wrap64 (x4_1 - 15)))).bind fun t161 => (if 0 ≤ (wrap64 (x4_1 - 16)) then (if (wrap64 (x4_1 - 16)) < (x3_1.length : Int) then (if x3_1.length < 35184372088832 then (retconref02_schedule.l0 k1 l0 (x3_1 ++ [(((((t158 + (rd x3_1 (wrap64 (x4_1 - 7)))) % 4294967296) + t161) % 4294967296) + (rd x3_1 (wrap64 (x4_1 - 16)))) % 4294967296]) (wrap64 (x4_1 + 1))) else (none)) else (none)) else (none))) else (none)) else (none)) else (none)) else (none)) = some r := H
              have A13 := Aside0.mk A130
              clear A130
              obtain ⟨ji14, hji14⟩ : ∃ j_ : Int, (wrap64 (x4_1 - 7)) = j_ := ⟨_, rfl⟩
              replace H : (if 0 ≤ (ji14) then (if (ji14) < (x3_1.length : Int) then (if 0 ≤ (wrap64 (x4_1 - 15)) then (if (wrap64 (x4_1 - 15)) < (x3_1.length : Int) then ((retconref02_lowerP.f (rd x3_1 (wrap64 (x4_1 - 15)))).bind fun t161 => (if 0 ≤ (wrap64 (x4_1 - 16)) then (if (wrap64 (x4_1 - 16)) < (x3_1.length : Int) then (if x3_1.length < 35184372088832 then (retconref02_schedule.l0 k1 l0 (x3_1 ++ [(((((t158 + (rd x3_1 (ji14))) % 4294967296) + t161) % 4294967296) + (rd x3_1 (wrap64 (x4_1 - 16)))) % 4294967296]) (wrap64 (x4_1 + 1))) else (none)) else (none)) else (none))) else (none)) else (none)) else (none)) else (none)) = some r := by first | (rw [hji14] at H; exact H) | (simp only [hji14] at H ⊢; exact H)
              (try rw [hji14] at A13)
              have hji14w : (IntKind.i64.wrap (x4_1 - 7)) = ji14 := (i64_w _).trans hji14
              by_cases c15 : 0 ≤ (ji14)
              · rw [if_pos c15] at H
                have c15b0 : decide (0 ≤ (ji14)) = true := decide_eq_true c15
                clear c15
                by_cases c16 : (ji14) < (x3_1.length : Int)
                · rw [if_pos c16] at H
                  have c16b0 : decide ((ji14) < (x3_1.length : Int)) = true := decide_eq_true c16
                  clear c16
                  obtain ⟨ji17, hji17⟩ : ∃ j_ : Int, (wrap64 (x4_1 - 15)) = j_ := ⟨_, rfl⟩
                  replace H : (if 0 ≤ (ji17) then (if (ji17) < (x3_1.length : Int) then ((retconref02_lowerP.f (rd x3_1 (ji17))).bind fun t161 => (if 0 ≤ (wrap64 (x4_1 - 16)) then (if (wrap64 (x4_1 - 16)) < (x3_1.length : Int) then (if x3_1.length < 35184372088832 then (retconref02_schedule.l0 k1 l0 (x3_1 ++ [(((((t158 + (rd x3_1 (ji14))) % 4294967296) + t161) % 4294967296) + (rd x3_1 (wrap64 (x4_1 - 16)))) % 4294967296]) (wrap64 (x4_1 + 1))) else (none)) else (none)) else (none))) else (none)) else (none)) = some r := by first | (rw [hji17] at H; exact H) | (simp only [hji17] at H ⊢; exact H)
                  (try rw [hji17] at A13)
                  have hji17w : (IntKind.i64.wrap (x4_1 - 15)) = ji17 := (i64_w _).trans hji17
                  by_cases c18 : 0 ≤ (ji17)
                  · rw [if_pos c18] at H
                    have c18b0 : decide (0 ≤ (ji17)) = true := decide_eq_true c18
                    clear c18
                    by_cases c19 : (ji17) < (x3_1.length : Int)
                    · rw [if_pos c19] at H
                      have c19b0 : decide ((ji17) < (x3_1.length : Int)) = true := decide_eq_true c19
                      clear c19
                      replace H := Option.bind_eq_some_iff.mp H
                      obtain ⟨t161, A200, H⟩ := H
                      replace H : (if 0 ≤ (wrap64 (x4_1 - 16)) then (if (wrap64 (x4_1 - 16)) < (x3_1.length : Int) then (if x3_1.length < 35184372088832 then (retconref02_schedule.l0 k1 l0 (x3_1 ++ [(((((t158 + (rd x3_1 (ji14))) % 4294967296) + t161) % 4294967296) + (rd x3_1 (wrap64 (x4_1 - 16)))) % 4294967296]) (wrap64 (x4_1 + 1))) else (none)) else (none)) else (none)) = some r := H
                      have A20 := Aside0.mk A200
                      clear A200
                      obtain ⟨ji21, hji21⟩ : ∃ j_ : Int, (wrap64 (x4_1 - 16)) = j_ := ⟨_, rfl⟩
                      replace H : (if 0 ≤ (ji21) then (if (ji21) < (x3_1.length : Int) then (if x3_1.length < 35184372088832 then (retconref02_schedule.l0 k1 l0 (x3_1 ++ [(((((t158 + (rd x3_1 (ji14))) % 4294967296) + t161) % 4294967296) + (rd x3_1 (ji21))) % 4294967296]) (wrap64 (x4_1 + 1))) else (none)) else (none)) else (none)) = some r := by first | (rw [hji21] at H; exact H) | (simp only [hji21] at H ⊢; exact H)
                      (try rw [hji21] at A13)
                      (try rw [hji21] at A20)
                      have hji21w : (IntKind.i64.wrap (x4_1 - 16)) = ji21 := (i64_w _).trans hji21
                      by_cases c22 : 0 ≤ (ji21)
                      · rw [if_pos c22] at H
                        have c22b0 : decide (0 ≤ (ji21)) = true := decide_eq_true c22
                        clear c22
                        by_cases c23 : (ji21) < (x3_1.length : Int)
                        · rw [if_pos c23] at H
                          have c23b0 : decide ((ji21) < (x3_1.length : Int)) = true := decide_eq_true c23
                          clear c23
                          by_cases c24 : x3_1.length < 35184372088832
                          · rw [if_pos c24] at H
                            have LMc24 := Aside0.mk c24
                            clear c24
                            obtain ⟨y163, hy163⟩ : ∃ y_ : List Int, y_ = (x3_1 ++ [(((((t158 + (rd x3_1 (ji14))) % 4294967296) + t161) % 4294967296) + (rd x3_1 (ji21))) % 4294967296]) := ⟨_, rfl⟩
                            replace H : (retconref02_schedule.l0 k1 l0 y163 (wrap64 (x4_1 + 1))) = some r := by first | (rw [hy163]; with_reducible exact H) | (have H2_ := (Option.bind_some _ _).symm.trans H; rw [hy163]; with_reducible exact H2_) | (have H2_ := (Option.bind_some _ _).symm.trans H; with_reducible exact H2_) | with_reducible exact H | (rw [hy163]; exact H) | exact H
                            have Ny163 := Aside0.mk hy163
                            clear hy163
                            have H' := Aside0.mk H
                            clear H
                            try go_wp2
                            have n0_ := Aside0.mk (Kd.R_drew HO_3.out)
                            have n1_ := Aside0.mk (below_drew1 HB.out)
                            clear HO_3
                            clear HB
                            have HO_3 := n0_
                            have HB := n1_
                            clear n0_ n1_
                            obtain ⟨Ao26, co26, eo26⟩ := Kd.R_slice HO_3.out
                            (first | subst eo26 | (injection eo26 with f1_ f2_ f3_; have f4_ := f1_.symm; have f5_ := f3_.symm; clear f1_ f2_ f3_; subst f4_; subst f5_))
                            have p157 : 0 ≤ ((ji10) : Int) := of_decide_eq_true (by first | (with_reducible assumption) | assumption)
                            have q157 : (ji10) < (x3_1.length : Int) := of_decide_eq_true (by first | (with_reducible assumption) | assumption)
                            obtain ⟨ad157, e157, hx157_0⟩ := Kd.at_int (Kd.R_reads' HO_3.out).2.2 (ji10) p157 q157
                            cases e157
                            replace p157 := eq_true p157
                            replace q157 := eq_true q157
                            have p159 : 0 ≤ ((ji14) : Int) := of_decide_eq_true (by first | (with_reducible assumption) | assumption)
                            have q159 : (ji14) < (x3_1.length : Int) := of_decide_eq_true (by first | (with_reducible assumption) | assumption)
                            obtain ⟨ad159, e159, hx159_0⟩ := Kd.at_int (Kd.R_reads' HO_3.out).2.2 (ji14) p159 q159
                            obtain rfl : ad157 = ad159 := (by injection e159)
                            replace p159 := eq_true p159
                            replace q159 := eq_true q159
                            have p160 : 0 ≤ ((ji17) : Int) := of_decide_eq_true (by first | (with_reducible assumption) | assumption)
                            have q160 : (ji17) < (x3_1.length : Int) := of_decide_eq_true (by first | (with_reducible assumption) | assumption)
                            obtain ⟨ad160, e160, hx160_0⟩ := Kd.at_int (Kd.R_reads' HO_3.out).2.2 (ji17) p160 q160
                            obtain rfl : ad157 = ad160 := (by injection e160)
                            replace p160 := eq_true p160
                            replace q160 := eq_true q160
                            have p162 : 0 ≤ ((ji21) : Int) := of_decide_eq_true (by first | (with_reducible assumption) | assumption)
                            have q162 : (ji21) < (x3_1.length : Int) := of_decide_eq_true (by first | (with_reducible assumption) | assumption)
                            obtain ⟨ad162, e162, hx162_0⟩ := Kd.at_int (Kd.R_reads' HO_3.out).2.2 (ji21) p162 q162
                            obtain rfl : ad157 = ad162 := (by injection e162)
                            replace p162 := eq_true p162
                            replace q162 := eq_true q162
                            refine start_ (n := 29) (S := fun w' => w'.cell? (ad157.add ((ji10)).toNat) = some (.int .u32 (rd x3_1 (ji10))) ∧ w'.cell? (ad157.add ((ji14)).toNat) = some (.int .u32 (rd x3_1 (ji14))) ∧ w'.cell? (ad157.add ((ji17)).toNat) = some (.int .u32 (rd x3_1 (ji17))) ∧ w'.cell? (ad157.add ((ji21)).toNat) = some (.int .u32 (rd x3_1 (ji21)))) (ds := [26, 27]) (false :: false :: false :: false :: false :: false :: false :: false :: false :: false :: false :: false :: false :: false :: false :: false :: false :: false :: false :: false :: false :: false :: false :: false :: false :: false :: false :: false :: false :: []).toArray (by kernel_rfl) rfl rfl ⟨hx157_0, hx159_0, hx160_0, hx162_0⟩ (fun hHeld => ?_); refine with_tabW retconref02_schedule.tab12 retconref02_schedule.bits12 (fun HT_ HW_ => ?_)
                            generalize wr.drew = w25 at HO_3 HB hx157_0 hx159_0 hx160_0 hx162_0 hHeld ⊢
                            refine pure_ (i := 0) (N := some 32) (v := ?_) (a' := ?_) (true :: false :: false :: false :: false :: false :: false :: false :: false :: false :: false :: false :: false :: false :: false :: false :: false :: false :: false :: false :: false :: false :: false :: false :: false :: false :: false :: false :: false :: []).toArray rfl rfl (any_of HT_.out (by kernel_rfl)) (fun _ _ _ h => h) (Or.inl ⟨by rfl, ?_⟩) ?_ ?_
                            rotate_left
                            · intro w'
                              go_simp
                              with_reducible rfl
                            rotate_left
                            · simp only [Act.put, List.setIfInBounds_toArray, List.set_cons_zero, List.set_cons_succ, i64_w, i32_w]
                              rfl
                            refine pure_ (i := 1) (N := some 33) (v := ?_) (a' := ?_) (true :: true :: false :: false :: false :: false :: false :: false :: false :: false :: false :: false :: false :: false :: false :: false :: false :: false :: false :: false :: false :: false :: false :: false :: false :: false :: false :: false :: false :: []).toArray rfl rfl (any_of HT_.out (by kernel_rfl)) (fun _ _ _ h => h) (Or.inl ⟨by rfl, ?_⟩) ?_ ?_
                            rotate_left
                            · intro w'
                              go_simp
                              with_reducible rfl
                            rotate_left
                            · simp only [Act.put, List.setIfInBounds_toArray, List.set_cons_zero, List.set_cons_succ, i64_w, i32_w]
                              rfl
                            refine pure_ (i := 2) (N := some 34) (v := ?_) (a' := ?_) (true :: true :: true :: false :: false :: false :: false :: false :: false :: false :: false :: false :: false :: false :: false :: false :: false :: false :: false :: false :: false :: false :: false :: false :: false :: false :: false :: false :: false :: []).toArray rfl rfl (any_of HT_.out (by kernel_rfl)) (fun _ _ _ h => h) (Or.inl ⟨by rfl, ?_⟩) ?_ ?_
                            rotate_left
                            · intro w'
                              go_simp
                              with_reducible rfl
                            rotate_left
                            · simp only [Act.put, List.setIfInBounds_toArray, List.set_cons_zero, List.set_cons_succ, i64_w, i32_w]
                              rfl
                            refine pure_ (i := 3) (N := some 35) (v := ?_) (a' := ?_) (true :: true :: true :: true :: false :: false :: false :: false :: false :: false :: false :: false :: false :: false :: false :: false :: false :: false :: false :: false :: false :: false :: false :: false :: false :: false :: false :: false :: false :: []).toArray rfl rfl (any_of HT_.out (by kernel_rfl)) (fun _ _ _ h => h) (Or.inl ⟨by rfl, ?_⟩) ?_ ?_
                            rotate_left
                            · intro w'
                              go_simp
                              with_reducible rfl
                            rotate_left
                            · simp only [Act.put, List.setIfInBounds_toArray, List.set_cons_zero, List.set_cons_succ, i64_w, i32_w]
                              rfl
                            refine pure_ (i := 4) (N := some 36) (v := ?_) (a' := ?_) (true :: true :: true :: true :: true :: false :: false :: false :: false :: false :: false :: false :: false :: false :: false :: false :: false :: false :: false :: false :: false :: false :: false :: false :: false :: false :: false :: false :: false :: []).toArray rfl rfl (any_of HT_.out (by kernel_rfl)) (fun _ _ _ h => h) (Or.inl ⟨by rfl, ?_⟩) ?_ ?_
                            rotate_left
                            · intro w'
                              go_simp
                              with_reducible rfl
                            rotate_left
                            · simp only [Act.put, List.setIfInBounds_toArray, List.set_cons_zero, List.set_cons_succ, i64_w, i32_w]
                              rfl
                            refine pure_ (i := 7) (N := some 39) (v := ?_) (a' := ?_) (true :: true :: true :: true :: true :: false :: false :: true :: false :: false :: false :: false :: false :: false :: false :: false :: false :: false :: false :: false :: false :: false :: false :: false :: false :: false :: false :: false :: false :: []).toArray rfl rfl (any_of HT_.out (by kernel_rfl)) (fun _ _ _ h => h) (Or.inl ⟨by rfl, ?_⟩) ?_ ?_
                            rotate_left
                            · intro w'
                              go_simp
                              with_reducible rfl
                            rotate_left
                            · simp only [Act.put, List.setIfInBounds_toArray, List.set_cons_zero, List.set_cons_succ, i64_w, i32_w]
                              rfl
                            refine pure_ (i := 8) (N := some 40) (v := ?_) (a' := ?_) (true :: true :: true :: true :: true :: false :: false :: true :: true :: false :: false :: false :: false :: false :: false :: false :: false :: false :: false :: false :: false :: false :: false :: false :: false :: false :: false :: false :: false :: []).toArray rfl rfl (any_of HT_.out (by kernel_rfl)) (fun _ _ _ h => h) (Or.inl ⟨by rfl, ?_⟩) ?_ ?_
                            rotate_left
                            · intro w'
                              go_simp
                              with_reducible rfl
                            rotate_left
                            · simp only [Act.put, List.setIfInBounds_toArray, List.set_cons_zero, List.set_cons_succ, i64_w, i32_w]
                              rfl
                            refine pure_ (i := 9) (N := some 41) (v := ?_) (a' := ?_) (true :: true :: true :: true :: true :: false :: false :: true :: true :: true :: false :: false :: false :: false :: false :: false :: false :: false :: false :: false :: false :: false :: false :: false :: false :: false :: false :: false :: false :: []).toArray rfl rfl (any_of HT_.out (by kernel_rfl)) (fun _ _ _ h => h) (Or.inl ⟨by rfl, ?_⟩) ?_ ?_
                            rotate_left
                            · intro w'
                              go_simp
                              with_reducible rfl
                            rotate_left
                            · simp only [Act.put, List.setIfInBounds_toArray, List.set_cons_zero, List.set_cons_succ, i64_w, i32_w]
                              rfl
                            refine pure_ (i := 10) (N := some 42) (v := ?_) (a' := ?_) (true :: true :: true :: true :: true :: false :: false :: true :: true :: true :: true :: false :: false :: false :: false :: false :: false :: false :: false :: false :: false :: false :: false :: false :: false :: false :: false :: false :: false :: []).toArray rfl rfl (any_of HT_.out (by kernel_rfl)) (fun _ _ _ h => h) (Or.inl ⟨by rfl, ?_⟩) ?_ ?_
                            rotate_left
                            · intro w'
                              go_simp
                              with_reducible rfl
                            rotate_left
                            · simp only [Act.put, List.setIfInBounds_toArray, List.set_cons_zero, List.set_cons_succ, i64_w, i32_w]
                              rfl
                            refine pure_ (i := 13) (N := some 45) (v := ?_) (a' := ?_) (true :: true :: true :: true :: true :: false :: false :: true :: true :: true :: true :: false :: false :: true :: false :: false :: false :: false :: false :: false :: false :: false :: false :: false :: false :: false :: false :: false :: false :: []).toArray rfl rfl (any_of HT_.out (by kernel_rfl)) (fun _ _ _ h => h) (Or.inl ⟨by rfl, ?_⟩) ?_ ?_
                            rotate_left
                            · intro w'
                              go_simp
                              with_reducible rfl
                            rotate_left
                            · simp only [Act.put, List.setIfInBounds_toArray, List.set_cons_zero, List.set_cons_succ, i64_w, i32_w]
                              rfl
                            refine pure_ (i := 14) (N := some 46) (v := ?_) (a' := ?_) (true :: true :: true :: true :: true :: false :: false :: true :: true :: true :: true :: false :: false :: true :: true :: false :: false :: false :: false :: false :: false :: false :: false :: false :: false :: false :: false :: false :: false :: []).toArray rfl rfl (any_of HT_.out (by kernel_rfl)) (fun _ _ _ h => h) (Or.inl ⟨by rfl, ?_⟩) ?_ ?_
                            rotate_left
                            · intro w'
                              go_simp
                              with_reducible rfl
                            rotate_left
                            · simp only [Act.put, List.setIfInBounds_toArray, List.set_cons_zero, List.set_cons_succ, i64_w, i32_w]
                              rfl
                            refine pure_ (i := 15) (N := some 47) (v := ?_) (a' := ?_) (true :: true :: true :: true :: true :: false :: false :: true :: true :: true :: true :: false :: false :: true :: true :: true :: false :: false :: false :: false :: false :: false :: false :: false :: false :: false :: false :: false :: false :: []).toArray rfl rfl (any_of HT_.out (by kernel_rfl)) (fun _ _ _ h => h) (Or.inl ⟨by rfl, ?_⟩) ?_ ?_
                            rotate_left
                            · intro w'
                              go_simp
                              with_reducible rfl
                            rotate_left
                            · simp only [Act.put, List.setIfInBounds_toArray, List.set_cons_zero, List.set_cons_succ, i64_w, i32_w]
                              rfl
                            refine pure_ (i := 16) (N := some 48) (v := ?_) (a' := ?_) (true :: true :: true :: true :: true :: false :: false :: true :: true :: true :: true :: false :: false :: true :: true :: true :: true :: false :: false :: false :: false :: false :: false :: false :: false :: false :: false :: false :: false :: []).toArray rfl rfl (any_of HT_.out (by kernel_rfl)) (fun _ _ _ h => h) (Or.inl ⟨by rfl, ?_⟩) ?_ ?_
                            rotate_left
                            · intro w'
                              go_simp
                              with_reducible rfl
                            rotate_left
                            · simp only [Act.put, List.setIfInBounds_toArray, List.set_cons_zero, List.set_cons_succ, i64_w, i32_w]
                              rfl
                            refine pure_ (i := 20) (N := some 52) (v := ?_) (a' := ?_) (true :: true :: true :: true :: true :: false :: false :: true :: true :: true :: true :: false :: false :: true :: true :: true :: true :: false :: false :: false :: true :: false :: false :: false :: false :: false :: false :: false :: false :: []).toArray rfl rfl (any_of HT_.out (by kernel_rfl)) (fun _ _ _ h => h) (Or.inl ⟨by rfl, ?_⟩) ?_ ?_
                            rotate_left
                            · intro w'
                              go_simp
                              with_reducible rfl
                            rotate_left
                            · simp only [Act.put, List.setIfInBounds_toArray, List.set_cons_zero, List.set_cons_succ, i64_w, i32_w]
                              rfl
                            refine pure_ (i := 21) (N := some 53) (v := ?_) (a' := ?_) (true :: true :: true :: true :: true :: false :: false :: true :: true :: true :: true :: false :: false :: true :: true :: true :: true :: false :: false :: false :: true :: true :: false :: false :: false :: false :: false :: false :: false :: []).toArray rfl rfl (any_of HT_.out (by kernel_rfl)) (fun _ _ _ h => h) (Or.inl ⟨by rfl, ?_⟩) ?_ ?_
                            rotate_left
                            · intro w'
                              go_simp
                              with_reducible rfl
                            rotate_left
                            · simp only [Act.put, List.setIfInBounds_toArray, List.set_cons_zero, List.set_cons_succ, i64_w, i32_w]
                              rfl
                            refine pure_ (i := 22) (N := some 54) (v := ?_) (a' := ?_) (true :: true :: true :: true :: true :: false :: false :: true :: true :: true :: true :: false :: false :: true :: true :: true :: true :: false :: false :: false :: true :: true :: true :: false :: false :: false :: false :: false :: false :: []).toArray rfl rfl (any_of HT_.out (by kernel_rfl)) (fun _ _ _ h => h) (Or.inl ⟨by rfl, ?_⟩) ?_ ?_
                            rotate_left
                            · intro w'
                              go_simp
                              with_reducible rfl
                            rotate_left
                            · simp only [Act.put, List.setIfInBounds_toArray, List.set_cons_zero, List.set_cons_succ, i64_w, i32_w]
                              rfl
                            refine pure_ (i := 23) (N := some 55) (v := ?_) (a' := ?_) (true :: true :: true :: true :: true :: false :: false :: true :: true :: true :: true :: false :: false :: true :: true :: true :: true :: false :: false :: false :: true :: true :: true :: true :: false :: false :: false :: false :: false :: []).toArray rfl rfl (any_of HT_.out (by kernel_rfl)) (fun _ _ _ h => h) (Or.inl ⟨by rfl, ?_⟩) ?_ ?_
                            rotate_left
                            · intro w'
                              go_simp
                              with_reducible rfl
                            rotate_left
                            · simp only [Act.put, List.setIfInBounds_toArray, List.set_cons_zero, List.set_cons_succ, i64_w, i32_w]
                              rfl
                            refine take_ (i := 5) (N := some 37) (v := ?_) (a' := ?_) (true :: true :: true :: true :: true :: true :: false :: true :: true :: true :: true :: false :: false :: true :: true :: true :: true :: false :: false :: false :: true :: true :: true :: true :: false :: false :: false :: false :: false :: []).toArray rfl rfl (take_ofW HT_.out HW_.out (by kernel_rfl)) (fun _ _ _ h => h) (Or.inl ⟨by rfl, ?_⟩) hHeld ?_ ?_
                            rotate_left
                            · rintro w' ⟨s0, s1, s2, s3⟩
                              go_simp
                              with_reducible rfl
                            rotate_left
                            · simp only [Act.put, List.setIfInBounds_toArray, List.set_cons_zero, List.set_cons_succ, i64_w, i32_w]
                              rfl
                            refine take_ (i := 11) (N := some 43) (v := ?_) (a' := ?_) (true :: true :: true :: true :: true :: true :: false :: true :: true :: true :: true :: true :: false :: true :: true :: true :: true :: false :: false :: false :: true :: true :: true :: true :: false :: false :: false :: false :: false :: []).toArray rfl rfl (take_ofW HT_.out HW_.out (by kernel_rfl)) (fun _ _ _ h => h) (Or.inl ⟨by rfl, ?_⟩) hHeld ?_ ?_
                            rotate_left
                            · rintro w' ⟨s0, s1, s2, s3⟩
                              go_simp
                              with_reducible rfl
                            rotate_left
                            · simp only [Act.put, List.setIfInBounds_toArray, List.set_cons_zero, List.set_cons_succ, i64_w, i32_w]
                              rfl
                            refine take_ (i := 17) (N := some 49) (v := ?_) (a' := ?_) (true :: true :: true :: true :: true :: true :: false :: true :: true :: true :: true :: true :: false :: true :: true :: true :: true :: true :: false :: false :: true :: true :: true :: true :: false :: false :: false :: false :: false :: []).toArray rfl rfl (take_ofW HT_.out HW_.out (by kernel_rfl)) (fun _ _ _ h => h) (Or.inl ⟨by rfl, ?_⟩) hHeld ?_ ?_
                            rotate_left
                            · rintro w' ⟨s0, s1, s2, s3⟩
                              go_simp
                              with_reducible rfl
                            rotate_left
                            · simp only [Act.put, List.setIfInBounds_toArray, List.set_cons_zero, List.set_cons_succ, i64_w, i32_w]
                              rfl
                            refine take_ (i := 24) (N := some 56) (v := ?_) (a' := ?_) (true :: true :: true :: true :: true :: true :: false :: true :: true :: true :: true :: true :: false :: true :: true :: true :: true :: true :: false :: false :: true :: true :: true :: true :: true :: false :: false :: false :: false :: []).toArray rfl rfl (take_ofW HT_.out HW_.out (by kernel_rfl)) (fun _ _ _ h => h) (Or.inl ⟨by rfl, ?_⟩) hHeld ?_ ?_
                            rotate_left
                            · rintro w' ⟨s0, s1, s2, s3⟩
                              go_simp
                              with_reducible rfl
                            rotate_left
                            · simp only [Act.put, List.setIfInBounds_toArray, List.set_cons_zero, List.set_cons_succ, i64_w, i32_w]
                              rfl
                            refine one_ (i := 6) (N := some 38) (true :: true :: true :: true :: true :: true :: true :: true :: true :: true :: true :: true :: false :: true :: true :: true :: true :: true :: false :: false :: true :: true :: true :: true :: true :: false :: false :: false :: false :: []).toArray rfl rfl (one_of HT_.out (by kernel_rfl)) (by decide) (fun K hK => ?_)
                            refine goes_ Try.func82 (by kernel_rfl) rfl #[.int .u32 (rd x3_1 (ji10))] (by rfl) rfl rfl (by (try simp only [List.map_toArray, List.map_cons, List.map_nil]); first | done | (simp only [hji10]; rfl) | rfl | (simp only [List.length_drop, List.length_take]; rfl)) ?_
                            with_reducible refine (retconref02_lowerQ.calls (rd x3_1 (ji10)) t158 _ A13.out).mono ?_
                            rintro e w' ⟨rfl, ⟨nd, rfl⟩⟩
                            refine ⟨_, rfl, ?_⟩
                            refine hK.out _ _ ⟨hHeld.1, hHeld.2.1, hHeld.2.2.1, hHeld.2.2.2⟩ (fun hHeld => ?_)
                            clear hK K
                            refine norm_ (a' := ?_) ?_ ?_
                            rotate_left
                            · show Act.put _ (some 38) _ = _
                              simp only [Act.put, List.setIfInBounds_toArray, List.set_cons_zero, List.set_cons_succ, i64_w, i32_w]
                              rfl
                            refine pure_ (i := 12) (N := some 44) (v := ?_) (a' := ?_) (true :: true :: true :: true :: true :: true :: true :: true :: true :: true :: true :: true :: true :: true :: true :: true :: true :: true :: false :: false :: true :: true :: true :: true :: true :: false :: false :: false :: false :: []).toArray rfl rfl (any_of HT_.out (by kernel_rfl)) (fun _ _ _ h => h) (Or.inl ⟨by rfl, ?_⟩) ?_ ?_
                            rotate_left
                            · intro w'
                              go_simp
                              with_reducible rfl
                            rotate_left
                            · simp only [Act.put, List.setIfInBounds_toArray, List.set_cons_zero, List.set_cons_succ, i64_w, i32_w]
                              rfl
                            refine one_ (i := 18) (N := some 50) (true :: true :: true :: true :: true :: true :: true :: true :: true :: true :: true :: true :: true :: true :: true :: true :: true :: true :: true :: false :: true :: true :: true :: true :: true :: false :: false :: false :: false :: []).toArray rfl rfl (one_of HT_.out (by kernel_rfl)) (by decide) (fun K hK => ?_)
                            refine goes_ Try.func83 (by kernel_rfl) rfl #[.int .u32 (rd x3_1 (ji17))] (by rfl) rfl rfl (by (try simp only [List.map_toArray, List.map_cons, List.map_nil]); first | done | (simp only [hji17]; rfl) | rfl | (simp only [List.length_drop, List.length_take]; rfl)) ?_
                            with_reducible refine (retconref02_lowerP.calls (rd x3_1 (ji17)) t161 _ A20.out).mono ?_
                            rintro e w' ⟨rfl, ⟨nd, rfl⟩⟩
                            refine ⟨_, rfl, ?_⟩
                            refine hK.out _ _ ⟨hHeld.1, hHeld.2.1, hHeld.2.2.1, hHeld.2.2.2⟩ (fun hHeld => ?_)
                            clear hK K
                            refine norm_ (a' := ?_) ?_ ?_
                            rotate_left
                            · show Act.put _ (some 50) _ = _
                              simp only [Act.put, List.setIfInBounds_toArray, List.set_cons_zero, List.set_cons_succ, i64_w, i32_w]
                              rfl
                            refine pure_ (i := 19) (N := some 51) (v := ?_) (a' := ?_) (true :: true :: true :: true :: true :: true :: true :: true :: true :: true :: true :: true :: true :: true :: true :: true :: true :: true :: true :: true :: true :: true :: true :: true :: true :: false :: false :: false :: false :: []).toArray rfl rfl (any_of HT_.out (by kernel_rfl)) (fun _ _ _ h => h) (Or.inl ⟨by rfl, ?_⟩) ?_ ?_
                            rotate_left
                            · intro w'
                              go_simp
                              with_reducible rfl
                            rotate_left
                            · simp only [Act.put, List.setIfInBounds_toArray, List.set_cons_zero, List.set_cons_succ, i64_w, i32_w]
                              rfl
                            refine pure_ (i := 25) (N := some 57) (v := ?_) (a' := ?_) (true :: true :: true :: true :: true :: true :: true :: true :: true :: true :: true :: true :: true :: true :: true :: true :: true :: true :: true :: true :: true :: true :: true :: true :: true :: true :: false :: false :: false :: []).toArray rfl rfl (any_of HT_.out (by kernel_rfl)) (fun _ _ _ h => h) (Or.inl ⟨by rfl, ?_⟩) ?_ ?_
                            rotate_left
                            · intro w'
                              go_simp
                              with_reducible rfl
                            rotate_left
                            · simp only [Act.put, List.setIfInBounds_toArray, List.set_cons_zero, List.set_cons_succ, i64_w, i32_w]
                              rfl
                            refine last_ (i := 26) (N := some 58) (true :: true :: true :: true :: true :: true :: true :: true :: true :: true :: true :: true :: true :: true :: true :: true :: true :: true :: true :: true :: true :: true :: true :: true :: true :: true :: true :: false :: false :: []).toArray rfl rfl (one_of HT_.out (by kernel_rfl)) (by decide) (fun K hK => ?_)
                            refine value_ (w1 := ?_) (v := ?_) (by rfl) rfl ?_ ?_
                            rotate_left 2
                            · go_simp
                              constructor
                              · rfl
                              · rfl
                            refine hK.out _ _ ?_
                            clear hK K
                            refine norm_ (a' := ?_) ?_ ?_
                            rotate_left
                            · show Act.put _ (some 58) _ = _
                              simp only [Act.put, List.setIfInBounds_toArray, List.set_cons_zero, List.set_cons_succ, i64_w, i32_w]
                              rfl
                            refine last_ (i := 27) (N := some 59) (true :: true :: true :: true :: true :: true :: true :: true :: true :: true :: true :: true :: true :: true :: true :: true :: true :: true :: true :: true :: true :: true :: true :: true :: true :: true :: true :: true :: false :: []).toArray rfl rfl (one_of HT_.out (by kernel_rfl)) (by decide) (fun K hK => ?_)
                            refine Kd.R_append_step (Kd.int .u32) (w0 := w) w.heap.size (by rfl) (.tmp 32) (.tmp 58) 113 110 (.int .u32 0) 4 rfl Try.underlying113 info110 rfl (by decide) (by omega) (.slice (some ad157) x3_1.length co26) x3_1 ((((((t158 + (rd x3_1 (ji14))) % 4294967296) + t161) % 4294967296) + (rd x3_1 (ji21))) % 4294967296) [.int .u32 ((((((t158 + (rd x3_1 (ji14))) % 4294967296) + t161) % 4294967296) + (rd x3_1 (ji21))) % 4294967296)] (fun _ => True) (fun _ => False) rfl rfl ?aP (fun _ hk => hk.elim) ?aF ?aO ?aB ?aS ?aL ?_
                            (case aP => exact rfl)
                            (case aB => exact (by repeat (first | (with_reducible first | exact HB.out | apply below_alloc | apply pw_below_drewN | apply below_drew1) | exact HB.out)))
                            (case aF => exact (fun _ _ => trivial))
                            (case aO => exact (by (with_reducible repeat (first | apply Kd.R_alloc | apply Kd.R_drewN | apply Kd.R_drew)); exact HO_3.out))
                            (case aS => exact (below_size (by repeat (first | (with_reducible first | exact HB.out | apply below_alloc | apply pw_below_drewN | apply below_drew1) | exact HB.out))))
                            (case aL => have := LMc24.out; omega)
                            intro v164 w27 ho hb hg hat
                            rw [← Ny163.out] at ho
                            have n0_ := Aside0.mk (hb)
                            have n1_ := Aside0.mk (ho)
                            clear HB
                            clear HO_3
                            have HB := n0_
                            have HO165 := n1_
                            clear n0_ n1_
                            clear ho hb hg hat
                            refine hK.out _ _ ?_
                            clear hK K
                            refine norm_ (a' := ?_) ?_ ?_
                            rotate_left
                            · show Act.put _ (some 59) _ = _
                              simp only [Act.put, List.setIfInBounds_toArray, List.set_cons_zero, List.set_cons_succ, i64_w, i32_w]
                              rfl
                            refine pure_ (i := 28) (N := some 3) (v := ?_) (a' := ?_) (true :: true :: true :: true :: true :: true :: true :: true :: true :: true :: true :: true :: true :: true :: true :: true :: true :: true :: true :: true :: true :: true :: true :: true :: true :: true :: true :: true :: true :: []).toArray rfl rfl (any_of HT_.out (by kernel_rfl)) (fun _ _ _ h => h) (Or.inl ⟨by rfl, ?_⟩) ?_ ?_
                            rotate_left
                            · intro w'
                              go_simp
                              with_reducible rfl
                            rotate_left
                            · simp only [Act.put, List.setIfInBounds_toArray, List.set_cons_zero, List.set_cons_succ, i64_w, i32_w]
                              rfl
                            refine done_ (done_of HT_.out (by kernel_rfl)) ?_
                            try go_wp2
                            go_roundg k1
                            case measure => have := HK1.out; omega
                            case rel => exact ⟨(y163), (wrap64 (x4_1 + 1)), (by first | rfl | (simp; done) | (simp [*]; done)), H', ⟨by have := HK1.out; omega⟩, ⟨by (with_reducible repeat (first | apply Kd.R_alloc | apply Kd.R_drewN | apply Kd.R_drew)); exact HO165.out⟩, ⟨by repeat (first | (with_reducible first | exact HB.out | apply below_alloc | apply pw_below_drewN | apply below_drew1) | exact HB.out)⟩⟩
                          · rw [if_neg c24] at H
                            exact absurd H (by simp)
                        · rw [if_neg c23] at H
                          exact absurd H (by simp)
                      · rw [if_neg c22] at H
                        exact absurd H (by simp)
                    · rw [if_neg c19] at H
                      exact absurd H (by simp)
                  · rw [if_neg c18] at H
                    exact absurd H (by simp)
                · rw [if_neg c16] at H
                  exact absurd H (by simp)
              · rw [if_neg c15] at H
                exact absurd H (by simp)
            · rw [if_neg c12] at H
              exact absurd H (by simp)
          · rw [if_neg c11] at H
            exact absurd H (by simp)
      · rw [if_neg c2] at H
        have c2b0 : decide (x4_1 < 64) = false := decide_eq_false c2
        clear c2
        obtain rfl := Option.some.inj H
        go_wp2
        go_ret
        exact ⟨_, by first | rfl | (simp [errW_none, errW_some] <;> rfl) | (simp [*, errW_none, errW_some] <;> rfl), by (with_reducible repeat (first | apply Kd.R_alloc | apply Kd.R_drewN | apply Kd.R_drew)); exact HO_3.out, by repeat (first | (with_reducible first | exact HB.out | apply below_alloc | apply pw_below_drewN | apply below_drew1) | exact HB.out)⟩
def retconref02_upperE.f (a0 : Int) : Option (Int) := (retconref02_r.f a0 6).bind fun t166 => ((retconref02_r.f a0 11).bind fun t167 => ((retconref02_r.f a0 25).bind fun t168 => (some (Go.bits .xor .u32 (Go.bits .xor .u32 t166 t167) t168))))
set_option maxHeartbeats 8000000 in
set_option maxRecDepth 100000 in
theorem retconref02_upperE.calls (a0 : Int) (r : Int) (w : World) (h : retconref02_upperE.f a0 = some r) :
    Calls Try.prog 76 #[.int .u32 a0] w fun e w' => e = .returned (.int .u32 r) ∧ Drawn0 w w' := by
  have H : ((retconref02_r.f a0 6).bind fun t166 => ((retconref02_r.f a0 11).bind fun t167 => ((retconref02_r.f a0 25).bind fun t168 => (some (Go.bits .xor .u32 (Go.bits .xor .u32 t166 t167) t168))))) = some r := h
  clear h
  replace H := Option.bind_eq_some_iff.mp H
  obtain ⟨t166, A20, H⟩ := H
  replace H : ((retconref02_r.f a0 11).bind fun t167 => ((retconref02_r.f a0 25).bind fun t168 => (some (Go.bits .xor .u32 (Go.bits .xor .u32 t166 t167) t168)))) = some r := H
  have A2 := Aside0.mk A20
  clear A20
  replace H := Option.bind_eq_some_iff.mp H
  obtain ⟨t167, A30, H⟩ := H
  replace H : ((retconref02_r.f a0 25).bind fun t168 => (some (Go.bits .xor .u32 (Go.bits .xor .u32 t166 t167) t168))) = some r := H
  have A3 := Aside0.mk A30
  clear A30
  replace H := Option.bind_eq_some_iff.mp H
  obtain ⟨t168, A40, H⟩ := H
  replace H : (some (Go.bits .xor .u32 (Go.bits .xor .u32 t166 t167) t168)) = some r := H
  have A4 := Aside0.mk A40
  clear A40
  obtain rfl := Option.some.inj H
  go_enter Try.func76, Try.ntmps76
  go_wp2_with (first | ((with_reducible refine gate_callee (f := 84) rfl ?_); refine goesL_ (some 4) rfl rfl Try.func84 (by kernel_rfl) rfl #[.int .u32 a0, .int .i64 6] rfl (by (try simp only [List.map_toArray, List.map_cons, List.map_nil]); first | done | rfl | (simp only [List.length_drop, List.length_take]; rfl)) ?_; (with_reducible refine (retconref02_r.calls a0 6 t166 _ A2.out).mono ?_); rintro e w' ⟨rfl, ⟨nd, rfl⟩⟩; refine ⟨_, rfl, ?_⟩) | ((with_reducible refine gate_callee (f := 84) rfl ?_); refine goesL_ (some 6) rfl rfl Try.func84 (by kernel_rfl) rfl #[.int .u32 a0, .int .i64 11] rfl (by (try simp only [List.map_toArray, List.map_cons, List.map_nil]); first | done | rfl | (simp only [List.length_drop, List.length_take]; rfl)) ?_; (with_reducible refine (retconref02_r.calls a0 11 t167 _ A3.out).mono ?_); rintro e w' ⟨rfl, ⟨nd, rfl⟩⟩; refine ⟨_, rfl, ?_⟩) | ((with_reducible refine gate_callee (f := 84) rfl ?_); refine goesL_ (some 9) rfl rfl Try.func84 (by kernel_rfl) rfl #[.int .u32 a0, .int .i64 25] rfl (by (try simp only [List.map_toArray, List.map_cons, List.map_nil]); first | done | rfl | (simp only [List.length_drop, List.length_take]; rfl)) ?_; (with_reducible refine (retconref02_r.calls a0 25 t168 _ A4.out).mono ?_); rintro e w' ⟨rfl, ⟨nd, rfl⟩⟩; refine ⟨_, rfl, ?_⟩))
  go_ret
  exact ⟨by first | rfl | (simp; done) | (simp [*]; done), by repeat (first | exact Drawn0.refl _ | apply Drawn0.step)⟩

-- NOT PRINTED: function 77 (retconref02_ch)
def retconref02_upperA.f (a0 : Int) : Option (Int) := (retconref02_r.f a0 2).bind fun t169 => ((retconref02_r.f a0 13).bind fun t170 => ((retconref02_r.f a0 22).bind fun t171 => (some (Go.bits .xor .u32 (Go.bits .xor .u32 t169 t170) t171))))
set_option maxHeartbeats 8000000 in
set_option maxRecDepth 100000 in
theorem retconref02_upperA.calls (a0 : Int) (r : Int) (w : World) (h : retconref02_upperA.f a0 = some r) :
    Calls Try.prog 78 #[.int .u32 a0] w fun e w' => e = .returned (.int .u32 r) ∧ Drawn0 w w' := by
  have H : ((retconref02_r.f a0 2).bind fun t169 => ((retconref02_r.f a0 13).bind fun t170 => ((retconref02_r.f a0 22).bind fun t171 => (some (Go.bits .xor .u32 (Go.bits .xor .u32 t169 t170) t171))))) = some r := h
  clear h
  replace H := Option.bind_eq_some_iff.mp H
  obtain ⟨t169, A20, H⟩ := H
  replace H : ((retconref02_r.f a0 13).bind fun t170 => ((retconref02_r.f a0 22).bind fun t171 => (some (Go.bits .xor .u32 (Go.bits .xor .u32 t169 t170) t171)))) = some r := H
  have A2 := Aside0.mk A20
  clear A20
  replace H := Option.bind_eq_some_iff.mp H
  obtain ⟨t170, A30, H⟩ := H
  replace H : ((retconref02_r.f a0 22).bind fun t171 => (some (Go.bits .xor .u32 (Go.bits .xor .u32 t169 t170) t171))) = some r := H
  have A3 := Aside0.mk A30
  clear A30
  replace H := Option.bind_eq_some_iff.mp H
  obtain ⟨t171, A40, H⟩ := H
  replace H : (some (Go.bits .xor .u32 (Go.bits .xor .u32 t169 t170) t171)) = some r := H
  have A4 := Aside0.mk A40
  clear A40
  obtain rfl := Option.some.inj H
  go_enter Try.func78, Try.ntmps78
  go_wp2_with (first | ((with_reducible refine gate_callee (f := 84) rfl ?_); refine goesL_ (some 4) rfl rfl Try.func84 (by kernel_rfl) rfl #[.int .u32 a0, .int .i64 2] rfl (by (try simp only [List.map_toArray, List.map_cons, List.map_nil]); first | done | rfl | (simp only [List.length_drop, List.length_take]; rfl)) ?_; (with_reducible refine (retconref02_r.calls a0 2 t169 _ A2.out).mono ?_); rintro e w' ⟨rfl, ⟨nd, rfl⟩⟩; refine ⟨_, rfl, ?_⟩) | ((with_reducible refine gate_callee (f := 84) rfl ?_); refine goesL_ (some 6) rfl rfl Try.func84 (by kernel_rfl) rfl #[.int .u32 a0, .int .i64 13] rfl (by (try simp only [List.map_toArray, List.map_cons, List.map_nil]); first | done | rfl | (simp only [List.length_drop, List.length_take]; rfl)) ?_; (with_reducible refine (retconref02_r.calls a0 13 t170 _ A3.out).mono ?_); rintro e w' ⟨rfl, ⟨nd, rfl⟩⟩; refine ⟨_, rfl, ?_⟩) | ((with_reducible refine gate_callee (f := 84) rfl ?_); refine goesL_ (some 9) rfl rfl Try.func84 (by kernel_rfl) rfl #[.int .u32 a0, .int .i64 22] rfl (by (try simp only [List.map_toArray, List.map_cons, List.map_nil]); first | done | rfl | (simp only [List.length_drop, List.length_take]; rfl)) ?_; (with_reducible refine (retconref02_r.calls a0 22 t171 _ A4.out).mono ?_); rintro e w' ⟨rfl, ⟨nd, rfl⟩⟩; refine ⟨_, rfl, ?_⟩))
  go_ret
  exact ⟨by first | rfl | (simp; done) | (simp [*]; done), by repeat (first | exact Drawn0.refl _ | apply Drawn0.step)⟩
def retconref02_maj.f (a0 : Int) (a1 : Int) (a2 : Int) : Option (Int) := some (Go.bits .xor .u32 (Go.bits .xor .u32 (Go.bits .and .u32 a0 a1) (Go.bits .and .u32 a0 a2)) (Go.bits .and .u32 a1 a2))
set_option maxHeartbeats 8000000 in
set_option maxRecDepth 100000 in
theorem retconref02_maj.calls (a0 : Int) (a1 : Int) (a2 : Int) (r : Int) (w : World) (h : retconref02_maj.f a0 a1 a2 = some r) :
    Calls Try.prog 79 #[.int .u32 a0, .int .u32 a1, .int .u32 a2] w fun e w' => e = .returned (.int .u32 r) ∧ Drawn0 w w' := by
  have H : (some (Go.bits .xor .u32 (Go.bits .xor .u32 (Go.bits .and .u32 a0 a1) (Go.bits .and .u32 a0 a2)) (Go.bits .and .u32 a1 a2))) = some r := h
  clear h
  obtain rfl := Option.some.inj H
  go_enter Try.func79, Try.ntmps79
  go_wp2
  go_ret
  exact ⟨by first | rfl | (simp; done) | (simp [*]; done), by repeat (first | exact Drawn0.refl _ | apply Drawn0.step)⟩

-- NOT PRINTED: function 67 (retconref02_block)

-- NOT PRINTED: function 42 (retconref02_Sum)

-- NOT PRINTED: function 10 (retconref13_Pack)

-- NOT PRINTED: function 14 (retconkit_OverBytes)

-- NOT PRINTED: function 15 (retconkit_LentBytes)
end Go.Proofs.Ytgflghnbpbiakaa.XH
namespace Go.Proofs.Ytgflghnbpbiakaa.XH
open Go.RowKit Go.Proofs.YtgflghnbpbiakaaW.PrintWords Go.Proofs.YtgflghnbpbiakaaW.PrintLast Go.Proofs.YtgflghnbpbiakaaW.PrintMore
attribute [local go_sem] max2_int min2_int max_two min_two max_three min_three max_four min_four   -- for this text's walks alone
set_option linter.unusedVariables false
set_option linter.unusedSimpArgs false

-- NOT PRINTED: function 61 (slices_Grow_byte_byte)

-- NOT PRINTED: function 38 (slices_Concat_byte_byte)
def super_high.l0 : Nat → Int → List Int → Int → Option (List Int)
  | 0, _, _, _ => none
  | k + 1, x0, x5, x6 => if x6 ≥ 0 then (if 0 ≤ (wrap64 (8 * x6)) then (if x5.length < 140737488355328 then (super_high.l0 k x0 (x5 ++ [(shr .i64 x0 (wrap64 (8 * x6))) % 256]) (wrap64 (x6 - 1))) else (none)) else (none)) else (some x5)
def super_high.f (k : Nat) (a0 : Int) (a1 : Int) : Option (List Int) := super_high.l0 k a0 ([] : List Int) (wrap64 (a1 - 1))
set_option maxHeartbeats 8000000 in
set_option maxRecDepth 100000 in
theorem super_high.calls (k : Nat) (a0 : Int) (a1 : Int) (r : List Int) (w : World) (h : super_high.f k a0 a1 = some r) :
    Calls Try.prog 39 #[.int .i64 a0, .int .i64 a1] w fun e w' => ∃ v0_ : Value, e = .returned (v0_) ∧ Kd.R (Kd.int .u8) 5 w' w.heap.size (fun _ => True) v0_ r ∧ Below w.heap.size w w' := by
  have HB := Aside0.mk (Below.refl w.heap.size w)
  have H : (super_high.l0 k a0 ([] : List Int) (wrap64 (a1 - 1))) = some r := h
  clear h
  have H' := Aside0.mk H
  clear H
  go_enter Try.func39, Try.ntmps39
  go_wp2
  go_loopg [5, 6] k (fun kq v5 v6 w' => ∃ (x5_1 : List Int) (x6_1 : Int), v6 = .int .i64 x6_1 ∧ Aside0 (super_high.l0 kq a0 x5_1 x6_1 = some r) ∧ Aside0 (kq ≤ k) ∧ Aside0 (Kd.R (Kd.int .u8) 5 w' w.heap.size (fun _ => True) v5 x5_1) ∧ Aside0 (Below w.heap.size w w'))
  case atStart => exact ⟨(([] : List Int)), (wrap64 (a1 - 1)), (by first | rfl | (simp; done) | (simp [*]; done)), H', ⟨Nat.le_refl _⟩, ⟨by first | exact Kd.R_nil _ _ _ _ _ | exact Kd.N_nil _ _ _ _ _ | exact Kd.V_nil _ _ _ _ _ | exact Kd.Q_nil _ _ _ _ _ | exact Kd.S_nil _ _ _ _ _⟩, ⟨by repeat (first | (with_reducible first | exact HB.out | apply below_alloc | apply pw_below_drewN | apply below_drew1) | exact HB.out)⟩⟩
  case round =>
    clear H'
    try clear p2
    obtain ⟨x5_1, x6_1, rfl, HA, HK1, HO_5, HB⟩ := hrel
    cases gk with
    | zero => exact absurd HA.out (by simp [super_high.l0])
    | succ k1 =>
      have H := HA.out
      clear HA
      simp only [super_high.l0] at H
      by_cases c3 : x6_1 ≥ 0
      · rw [if_pos c3] at H
        have c3b0 : decide (0 ≤ x6_1) = true := decide_eq_true c3
        clear c3
        obtain ⟨ji4, hji4⟩ : ∃ j_ : Int, (wrap64 (8 * x6_1)) = j_ := ⟨_, rfl⟩
        replace H : (if 0 ≤ (ji4) then (if x5_1.length < 140737488355328 then (super_high.l0 k1 a0 (x5_1 ++ [(shr .i64 a0 (ji4)) % 256]) (wrap64 (x6_1 - 1))) else (none)) else (none)) = some r := by first | (rw [hji4] at H; exact H) | (simp only [hji4] at H ⊢; exact H)
        have hji4w : (IntKind.i64.wrap (8 * x6_1)) = ji4 := (i64_w _).trans hji4
        by_cases c5 : 0 ≤ (ji4)
        · rw [if_pos c5] at H
          have c5b0 := eq_true c5
          have c5b1 : decide (0 ≤ (ji4)) = true := decide_eq_true c5
          clear c5
          obtain ⟨ji6, hji6⟩ : ∃ j_ : Int, (shr .i64 a0 (ji4)) = j_ := ⟨_, rfl⟩
          replace H : (if x5_1.length < 140737488355328 then (super_high.l0 k1 a0 (x5_1 ++ [(ji6) % 256]) (wrap64 (x6_1 - 1))) else (none)) = some r := by first | (rw [hji6] at H; exact H) | (simp only [hji6] at H ⊢; exact H)
          have hji6_ : (a0 / 2 ^ min (ji4).toNat 64) = ji6 := hji6
          have hji6z : (ji4) ≤ 64 → (a0 / 2 ^ (ji4).toNat) = ji6 := shr_small hji6
          by_cases c7 : x5_1.length < 140737488355328
          · rw [if_pos c7] at H
            have LMc7 := Aside0.mk c7
            clear c7
            obtain ⟨y103, hy103⟩ : ∃ y_ : List Int, y_ = (x5_1 ++ [(ji6) % 256]) := ⟨_, rfl⟩
            replace H : (super_high.l0 k1 a0 y103 (wrap64 (x6_1 - 1))) = some r := by first | (rw [hy103]; with_reducible exact H) | (have H2_ := (Option.bind_some _ _).symm.trans H; rw [hy103]; with_reducible exact H2_) | (have H2_ := (Option.bind_some _ _).symm.trans H; with_reducible exact H2_) | with_reducible exact H | (rw [hy103]; exact H) | exact H
            have Ny103 := Aside0.mk hy103
            clear hy103
            have H' := Aside0.mk H
            clear H
            go_wp2_with (first | ((with_reducible refine gate_builtin (b := .append) (xs := #[.tmp 13, .tmp 19]) rfl ?_); at_builtin; refine Kd.R_append (Kd.int .u8) (w0 := w) w.heap.size rfl (.tmp 13) (.tmp 19) 26 5 (.int .u8 0) 1 rfl Try.underlying26 info5 rfl (by decide) (by omega) u5 x5_1 ((ji6) % 256) [.int .u8 ((ji6) % 256)] (fun _ => True) (fun _ => False) rfl rfl ?aP (fun _ hk => hk.elim) ?aF ?aO ?aB ?aS ?aL ?_; (case aP => exact rfl); (case aB => exact (by repeat (first | (with_reducible first | exact HB.out | apply below_alloc | apply pw_below_drewN | apply below_drew1) | exact HB.out))); (case aF => exact (fun _ _ => trivial)); (case aO => exact (by (with_reducible repeat (first | apply Kd.R_alloc | apply Kd.R_drewN | apply Kd.R_drew)); exact HO_5.out)); (case aS => exact (below_size (by repeat (first | (with_reducible first | exact HB.out | apply below_alloc | apply pw_below_drewN | apply below_drew1) | exact HB.out)))); (case aL => have := LMc7.out; omega); intro v104 w8 ho hb hg hat; rw [← Ny103.out] at ho; have n0_ := Aside0.mk (hb); have n1_ := Aside0.mk (ho); clear HB; clear HO_5; have HB := n0_; have HO105 := n1_; clear n0_ n1_; clear ho hb hg hat))
            go_roundg k1
            case measure => have := HK1.out; omega
            case rel => exact ⟨(y103), (wrap64 (x6_1 - 1)), (by first | rfl | (simp; done) | (simp [*]; done)), H', ⟨by have := HK1.out; omega⟩, ⟨by (with_reducible repeat (first | apply Kd.R_alloc | apply Kd.R_drewN | apply Kd.R_drew)); exact HO105.out⟩, ⟨by repeat (first | (with_reducible first | exact HB.out | apply below_alloc | apply pw_below_drewN | apply below_drew1) | exact HB.out)⟩⟩
          · rw [if_neg c7] at H
            exact absurd H (by simp)
        · rw [if_neg c5] at H
          exact absurd H (by simp)
      · rw [if_neg c3] at H
        have c3b0 : decide (0 ≤ x6_1) = false := decide_eq_false c3
        clear c3
        obtain rfl := Option.some.inj H
        go_wp2
        go_ret
        exact ⟨_, by first | rfl | (simp [errW_none, errW_some] <;> rfl) | (simp [*, errW_none, errW_some] <;> rfl), by (with_reducible repeat (first | apply Kd.R_alloc | apply Kd.R_drewN | apply Kd.R_drew)); exact HO_5.out, by repeat (first | (with_reducible first | exact HB.out | apply below_alloc | apply pw_below_drewN | apply below_drew1) | exact HB.out)⟩
def bytes_Equal.f (l0 : List Int) (l1 : List Int) : Option (Bool) := some ((strOfNums l0).toList == (strOfNums l1).toList)
set_option maxHeartbeats 8000000 in
set_option maxRecDepth 100000 in
theorem bytes_Equal.calls (A0 : Option Addr) (c0 : Nat) (l0 : List Int) (A1 : Option Addr) (c1 : Nat) (l1 : List Int) (r : Bool) (w : World) (hr0 : Kd.C (Kd.int .u8) w A0 l0.length l0) (hc0 : l0.length ≤ c0) (hr1 : Kd.C (Kd.int .u8) w A1 l1.length l1) (hc1 : l1.length ≤ c1) (h : bytes_Equal.f l0 l1 = some r) :
    Calls Try.prog 43 #[.slice A0 l0.length c0, .slice A1 l1.length c1] w fun e w' => e = .returned (.bool r) ∧ Drawn0 w w' := by
  have HR0 := Aside0.mk hr0
  have HC0 := Aside0.mk hc0
  clear hr0 hc0
  have HR1 := Aside0.mk hr1
  have HC1 := Aside0.mk hc1
  clear hr1 hc1
  have H : (some ((strOfNums l0).toList == (strOfNums l1).toList)) = some r := h
  clear h
  obtain rfl := Option.some.inj H
  have hcv3 := Kd.C_string (P := Try.prog) (A := A0) (c := c0) Try.underlying26 Try.underlying5 Try.underlying9 HR0.out
  have hcv4 := Kd.C_string (P := Try.prog) (A := A1) (c := c1) Try.underlying26 Try.underlying5 Try.underlying9 HR1.out
  go_enter Try.func43, Try.ntmps43
  go_wp2
  go_ret
  exact ⟨by first | rfl | (simp; done) | (simp [*]; done), by repeat (first | exact Drawn0.refl _ | apply Drawn0.step)⟩

-- NOT PRINTED: function 16 (super_Unpack)

-- NOT PRINTED: function 48 (disk_Disk_Read)

-- NOT PRINTED: function 68 (disk_Disk_Len)

-- NOT PRINTED: function 46 (super_slots)

-- NOT PRINTED: function 47 (super_greatest)

-- NOT PRINTED: function 49 (disk_Disk_Flush)

-- NOT PRINTED: function 20 (super_Save)

-- NOT PRINTED: function 26 (disk_New)

-- NOT PRINTED: function 21 (retconlaw13_made)
def retconref13_high.l0 : Nat → Int → List Int → Int → Option (List Int)
  | 0, _, _, _ => none
  | k + 1, x0, x5, x6 => if x6 ≥ 0 then (if 0 ≤ (wrap64 (8 * x6)) then (if x5.length < 140737488355328 then (retconref13_high.l0 k x0 (x5 ++ [(shr .i64 x0 (wrap64 (8 * x6))) % 256]) (wrap64 (x6 - 1))) else (none)) else (none)) else (some x5)
def retconref13_high.f (k : Nat) (a0 : Int) (a1 : Int) : Option (List Int) := retconref13_high.l0 k a0 ([] : List Int) (wrap64 (a1 - 1))
set_option maxHeartbeats 8000000 in
set_option maxRecDepth 100000 in
theorem retconref13_high.calls (k : Nat) (a0 : Int) (a1 : Int) (r : List Int) (w : World) (h : retconref13_high.f k a0 a1 = some r) :
    Calls Try.prog 41 #[.int .i64 a0, .int .i64 a1] w fun e w' => ∃ v0_ : Value, e = .returned (v0_) ∧ Kd.R (Kd.int .u8) 5 w' w.heap.size (fun _ => True) v0_ r ∧ Below w.heap.size w w' := by
  have HB := Aside0.mk (Below.refl w.heap.size w)
  have H : (retconref13_high.l0 k a0 ([] : List Int) (wrap64 (a1 - 1))) = some r := h
  clear h
  have H' := Aside0.mk H
  clear H
  go_enter Try.func41, Try.ntmps41
  go_wp2
  go_loopg [5, 6] k (fun kq v5 v6 w' => ∃ (x5_1 : List Int) (x6_1 : Int), v6 = .int .i64 x6_1 ∧ Aside0 (retconref13_high.l0 kq a0 x5_1 x6_1 = some r) ∧ Aside0 (kq ≤ k) ∧ Aside0 (Kd.R (Kd.int .u8) 5 w' w.heap.size (fun _ => True) v5 x5_1) ∧ Aside0 (Below w.heap.size w w'))
  case atStart => exact ⟨(([] : List Int)), (wrap64 (a1 - 1)), (by first | rfl | (simp; done) | (simp [*]; done)), H', ⟨Nat.le_refl _⟩, ⟨by first | exact Kd.R_nil _ _ _ _ _ | exact Kd.N_nil _ _ _ _ _ | exact Kd.V_nil _ _ _ _ _ | exact Kd.Q_nil _ _ _ _ _ | exact Kd.S_nil _ _ _ _ _⟩, ⟨by repeat (first | (with_reducible first | exact HB.out | apply below_alloc | apply pw_below_drewN | apply below_drew1) | exact HB.out)⟩⟩
  case round =>
    clear H'
    try clear p2
    obtain ⟨x5_1, x6_1, rfl, HA, HK1, HO_5, HB⟩ := hrel
    cases gk with
    | zero => exact absurd HA.out (by simp [retconref13_high.l0])
    | succ k1 =>
      have H := HA.out
      clear HA
      simp only [retconref13_high.l0] at H
      by_cases c3 : x6_1 ≥ 0
      · rw [if_pos c3] at H
        have c3b0 : decide (0 ≤ x6_1) = true := decide_eq_true c3
        clear c3
        obtain ⟨ji4, hji4⟩ : ∃ j_ : Int, (wrap64 (8 * x6_1)) = j_ := ⟨_, rfl⟩
        replace H : (if 0 ≤ (ji4) then (if x5_1.length < 140737488355328 then (retconref13_high.l0 k1 a0 (x5_1 ++ [(shr .i64 a0 (ji4)) % 256]) (wrap64 (x6_1 - 1))) else (none)) else (none)) = some r := by first | (rw [hji4] at H; exact H) | (simp only [hji4] at H ⊢; exact H)
        have hji4w : (IntKind.i64.wrap (8 * x6_1)) = ji4 := (i64_w _).trans hji4
        by_cases c5 : 0 ≤ (ji4)
        · rw [if_pos c5] at H
          have c5b0 := eq_true c5
          have c5b1 : decide (0 ≤ (ji4)) = true := decide_eq_true c5
          clear c5
          obtain ⟨ji6, hji6⟩ : ∃ j_ : Int, (shr .i64 a0 (ji4)) = j_ := ⟨_, rfl⟩
          replace H : (if x5_1.length < 140737488355328 then (retconref13_high.l0 k1 a0 (x5_1 ++ [(ji6) % 256]) (wrap64 (x6_1 - 1))) else (none)) = some r := by first | (rw [hji6] at H; exact H) | (simp only [hji6] at H ⊢; exact H)
          have hji6_ : (a0 / 2 ^ min (ji4).toNat 64) = ji6 := hji6
          have hji6z : (ji4) ≤ 64 → (a0 / 2 ^ (ji4).toNat) = ji6 := shr_small hji6
          by_cases c7 : x5_1.length < 140737488355328
          · rw [if_pos c7] at H
            have LMc7 := Aside0.mk c7
            clear c7
            obtain ⟨y125, hy125⟩ : ∃ y_ : List Int, y_ = (x5_1 ++ [(ji6) % 256]) := ⟨_, rfl⟩
            replace H : (retconref13_high.l0 k1 a0 y125 (wrap64 (x6_1 - 1))) = some r := by first | (rw [hy125]; with_reducible exact H) | (have H2_ := (Option.bind_some _ _).symm.trans H; rw [hy125]; with_reducible exact H2_) | (have H2_ := (Option.bind_some _ _).symm.trans H; with_reducible exact H2_) | with_reducible exact H | (rw [hy125]; exact H) | exact H
            have Ny125 := Aside0.mk hy125
            clear hy125
            have H' := Aside0.mk H
            clear H
            go_wp2_with (first | ((with_reducible refine gate_builtin (b := .append) (xs := #[.tmp 13, .tmp 19]) rfl ?_); at_builtin; refine Kd.R_append (Kd.int .u8) (w0 := w) w.heap.size rfl (.tmp 13) (.tmp 19) 26 5 (.int .u8 0) 1 rfl Try.underlying26 info5 rfl (by decide) (by omega) u5 x5_1 ((ji6) % 256) [.int .u8 ((ji6) % 256)] (fun _ => True) (fun _ => False) rfl rfl ?aP (fun _ hk => hk.elim) ?aF ?aO ?aB ?aS ?aL ?_; (case aP => exact rfl); (case aB => exact (by repeat (first | (with_reducible first | exact HB.out | apply below_alloc | apply pw_below_drewN | apply below_drew1) | exact HB.out))); (case aF => exact (fun _ _ => trivial)); (case aO => exact (by (with_reducible repeat (first | apply Kd.R_alloc | apply Kd.R_drewN | apply Kd.R_drew)); exact HO_5.out)); (case aS => exact (below_size (by repeat (first | (with_reducible first | exact HB.out | apply below_alloc | apply pw_below_drewN | apply below_drew1) | exact HB.out)))); (case aL => have := LMc7.out; omega); intro v126 w8 ho hb hg hat; rw [← Ny125.out] at ho; have n0_ := Aside0.mk (hb); have n1_ := Aside0.mk (ho); clear HB; clear HO_5; have HB := n0_; have HO127 := n1_; clear n0_ n1_; clear ho hb hg hat))
            go_roundg k1
            case measure => have := HK1.out; omega
            case rel => exact ⟨(y125), (wrap64 (x6_1 - 1)), (by first | rfl | (simp; done) | (simp [*]; done)), H', ⟨by have := HK1.out; omega⟩, ⟨by (with_reducible repeat (first | apply Kd.R_alloc | apply Kd.R_drewN | apply Kd.R_drew)); exact HO127.out⟩, ⟨by repeat (first | (with_reducible first | exact HB.out | apply below_alloc | apply pw_below_drewN | apply below_drew1) | exact HB.out)⟩⟩
          · rw [if_neg c7] at H
            exact absurd H (by simp)
        · rw [if_neg c5] at H
          exact absurd H (by simp)
      · rw [if_neg c3] at H
        have c3b0 : decide (0 ≤ x6_1) = false := decide_eq_false c3
        clear c3
        obtain rfl := Option.some.inj H
        go_wp2
        go_ret
        exact ⟨_, by first | rfl | (simp [errW_none, errW_some] <;> rfl) | (simp [*, errW_none, errW_some] <;> rfl), by (with_reducible repeat (first | apply Kd.R_alloc | apply Kd.R_drewN | apply Kd.R_drew)); exact HO_5.out, by repeat (first | (with_reducible first | exact HB.out | apply below_alloc | apply pw_below_drewN | apply below_drew1) | exact HB.out)⟩
def retconref13_number.l0 : Nat → List Int → Int → Int → Option (Int)
  | 0, _, _, _ => none
  | k + 1, x0, x3, x4 => if x4 < (x0.length : Int) then (if 0 ≤ x4 then (retconref13_number.l0 k x0 (wrap64 ((wrap64 (256 * x3)) + (wrap64 (rd x0 x4)))) (wrap64 (x4 + 1))) else (none)) else (some x3)
def retconref13_number.f (k : Nat) (l0 : List Int) : Option (Int) := retconref13_number.l0 k l0 0 0
theorem retconref13_number.mono_l : ∀ k, (∀ y0 y1 y2, LeO (retconref13_number.l0 k y0 y1 y2) (retconref13_number.l0 (k + 1) y0 y1 y2))
  | 0 => fun _ _ _ r h => by simp [retconref13_number.l0] at h
  | k + 1 => by
    have ih0 := retconref13_number.mono_l k
    · intro y0 y1 y2
      unfold retconref13_number.l0
      repeat' first
      | (with_reducible exact ih0 _ _ _)
      | (with_reducible exact LeO.refl _)
      | (with_reducible exact LeO.none _)
      | (with_reducible refine LeO.ite ?_ ?_)
      | (with_reducible refine LeO.bind ?_ (fun _ => ?_))
      | exact ih0 _ _ _
      | exact LeO.none _
      | refine LeO.ite ?_ ?_
      | refine LeO.bind ?_ (fun _ => ?_)
theorem retconref13_number.mono : ∀ a0 k, LeO (retconref13_number.f k a0) (retconref13_number.f (k + 1) a0) := by
  intro a0 k
  have ih0 := retconref13_number.mono_l k
  unfold retconref13_number.f
  repeat' first
      | (with_reducible exact ih0 _ _ _)
      | (with_reducible exact LeO.refl _)
      | (with_reducible exact LeO.none _)
      | (with_reducible refine LeO.ite ?_ ?_)
      | (with_reducible refine LeO.bind ?_ (fun _ => ?_))
      | exact ih0 _ _ _
      | exact LeO.none _
      | refine LeO.ite ?_ ?_
      | refine LeO.bind ?_ (fun _ => ?_)
set_option maxHeartbeats 8000000 in
set_option maxRecDepth 100000 in
theorem retconref13_number.calls (k : Nat) (A0 : Option Addr) (c0 : Nat) (l0 : List Int) (r : Int) (w : World) (hr0 : Kd.C (Kd.int .u8) w A0 l0.length l0) (hc0 : l0.length ≤ c0) (h : retconref13_number.f k l0 = some r) :
    Calls Try.prog 45 #[.slice A0 l0.length c0] w fun e w' => e = .returned (.int .i64 r) ∧ Drawn0 w w' := by
  have HR0 := Aside0.mk hr0
  have HC0 := Aside0.mk hc0
  clear hr0 hc0
  have H : (retconref13_number.l0 k l0 0 0) = some r := h
  clear h
  have H' := Aside0.mk H
  clear H
  go_enter Try.func45, Try.ntmps45
  go_wp2
  go_loopg [3, 4] k (fun kq v3 v4 w' => ∃ (x3_1 : Int) (x4_1 : Int), v3 = .int .i64 x3_1 ∧ v4 = .int .i64 x4_1 ∧ Aside0 (retconref13_number.l0 kq l0 x3_1 x4_1 = some r) ∧ Aside0 (kq ≤ k) ∧ Drawn0 w w')
  case atStart => exact ⟨(0), (0), (by first | rfl | (simp; done) | (simp [*]; done)), (by first | rfl | (simp; done) | (simp [*]; done)), H', ⟨Nat.le_refl _⟩, by repeat (first | exact Drawn0.refl _ | apply Drawn0.step)⟩
  case round =>
    clear H'
    obtain ⟨x3_1, x4_1, rfl, rfl, HA, HK1, ⟨m1, rfl⟩⟩ := hrel
    cases gk with
    | zero => exact absurd HA.out (by simp [retconref13_number.l0])
    | succ k1 =>
      have H := HA.out
      clear HA
      simp only [retconref13_number.l0] at H
      by_cases c2 : x4_1 < (l0.length : Int)
      · rw [if_pos c2] at H
        have c2b0 : decide (x4_1 < (l0.length : Int)) = true := decide_eq_true c2
        clear c2
        by_cases c3 : 0 ≤ x4_1
        · rw [if_pos c3] at H
          have c3b0 : decide (0 ≤ x4_1) = true := decide_eq_true c3
          clear c3
          have H' := Aside0.mk H
          clear H
          have p205 : 0 ≤ (x4_1 : Int) := of_decide_eq_true (by first | (with_reducible assumption) | assumption)
          have q205 : x4_1 < (l0.length : Int) := of_decide_eq_true (by first | (with_reducible assumption) | assumption)
          obtain ⟨ad205, e205, hx205_0⟩ := Kd.at_int HR0.out x4_1 p205 q205
          cases e205
          replace p205 := eq_true p205
          replace q205 := eq_true q205
          go_wp2
          go_roundg k1
          case measure => have := HK1.out; omega
          case rel => exact ⟨(wrap64 ((wrap64 (256 * x3_1)) + (wrap64 (rd l0 x4_1)))), (wrap64 (x4_1 + 1)), (by first | rfl | (simp; done) | (simp [*]; done)), (by first | rfl | (simp; done) | (simp [*]; done)), H', ⟨by have := HK1.out; omega⟩, by repeat (first | exact Drawn0.refl _ | apply Drawn0.step)⟩
        · rw [if_neg c3] at H
          exact absurd H (by simp)
      · rw [if_neg c2] at H
        have c2b0 : decide (x4_1 < (l0.length : Int)) = false := decide_eq_false c2
        clear c2
        obtain rfl := Option.some.inj H
        go_wp2
        go_ret
        exact ⟨by first | rfl | (simp; done) | (simp [*]; done), by repeat (first | exact Drawn0.refl _ | apply Drawn0.step)⟩

-- NOT PRINTED: function 17 (retconref13_Unpack)

-- NOT PRINTED: function 18 (retconkit_KeptBytes)

-- NOT PRINTED: function 3 (retconlaw13_SuperPacks)

-- NOT PRINTED: function 4 (retconlaw13_SuperNone)

-- NOT PRINTED: function 6 (retconlaw13_SuperBack)

-- NOT PRINTED: function 27 (retconref12_New)
def retconref13_blank.l0 : Nat → List Int → Int → Option (Bool)
  | 0, _, _ => none
  | k + 1, x0, x3 => if x3 < (x0.length : Int) then (if 0 ≤ x3 then (if (rd x0 x3) = 0 then (retconref13_blank.l0 k x0 (wrap64 (x3 + 1))) else (some false)) else (none)) else (some true)
def retconref13_blank.f (k : Nat) (l0 : List Int) : Option (Bool) := retconref13_blank.l0 k l0 0
theorem retconref13_blank.mono_l : ∀ k, (∀ y0 y1, LeO (retconref13_blank.l0 k y0 y1) (retconref13_blank.l0 (k + 1) y0 y1))
  | 0 => fun _ _ r h => by simp [retconref13_blank.l0] at h
  | k + 1 => by
    have ih0 := retconref13_blank.mono_l k
    · intro y0 y1
      unfold retconref13_blank.l0
      repeat' first
      | (with_reducible exact ih0 _ _)
      | (with_reducible exact LeO.refl _)
      | (with_reducible exact LeO.none _)
      | (with_reducible refine LeO.ite ?_ ?_)
      | (with_reducible refine LeO.bind ?_ (fun _ => ?_))
      | exact ih0 _ _
      | exact LeO.none _
      | refine LeO.ite ?_ ?_
      | refine LeO.bind ?_ (fun _ => ?_)
theorem retconref13_blank.mono : ∀ a0 k, LeO (retconref13_blank.f k a0) (retconref13_blank.f (k + 1) a0) := by
  intro a0 k
  have ih0 := retconref13_blank.mono_l k
  unfold retconref13_blank.f
  repeat' first
      | (with_reducible exact ih0 _ _)
      | (with_reducible exact LeO.refl _)
      | (with_reducible exact LeO.none _)
      | (with_reducible refine LeO.ite ?_ ?_)
      | (with_reducible refine LeO.bind ?_ (fun _ => ?_))
      | exact ih0 _ _
      | exact LeO.none _
      | refine LeO.ite ?_ ?_
      | refine LeO.bind ?_ (fun _ => ?_)
set_option maxHeartbeats 8000000 in
set_option maxRecDepth 100000 in
theorem retconref13_blank.calls (k : Nat) (A0 : Option Addr) (c0 : Nat) (l0 : List Int) (r : Bool) (w : World) (hr0 : Kd.C (Kd.int .u8) w A0 l0.length l0) (hc0 : l0.length ≤ c0) (h : retconref13_blank.f k l0 = some r) :
    Calls Try.prog 60 #[.slice A0 l0.length c0] w fun e w' => e = .returned (.bool r) ∧ Drawn0 w w' := by
  have HR0 := Aside0.mk hr0
  have HC0 := Aside0.mk hc0
  clear hr0 hc0
  have H : (retconref13_blank.l0 k l0 0) = some r := h
  clear h
  have H' := Aside0.mk H
  clear H
  go_enter Try.func60, Try.ntmps60
  go_wp2
  go_loopg [3] k (fun kq v3 w' => ∃ (x3_1 : Int), v3 = .int .i64 x3_1 ∧ Aside0 (retconref13_blank.l0 kq l0 x3_1 = some r) ∧ Aside0 (kq ≤ k) ∧ Drawn0 w w')
  case atStart => exact ⟨(0), (by first | rfl | (simp; done) | (simp [*]; done)), H', ⟨Nat.le_refl _⟩, by repeat (first | exact Drawn0.refl _ | apply Drawn0.step)⟩
  case round =>
    clear H'
    obtain ⟨x3_1, rfl, HA, HK1, ⟨m1, rfl⟩⟩ := hrel
    cases gk with
    | zero => exact absurd HA.out (by simp [retconref13_blank.l0])
    | succ k1 =>
      have H := HA.out
      clear HA
      simp only [retconref13_blank.l0] at H
      by_cases c2 : x3_1 < (l0.length : Int)
      · rw [if_pos c2] at H
        have c2b0 : decide (x3_1 < (l0.length : Int)) = true := decide_eq_true c2
        clear c2
        by_cases c3 : 0 ≤ x3_1
        · rw [if_pos c3] at H
          have c3b0 : decide (0 ≤ x3_1) = true := decide_eq_true c3
          clear c3
          by_cases c4 : (rd l0 x3_1) = 0
          · rw [if_pos c4] at H
            have c4b0 : ((rd l0 x3_1) == 0) = true := beq_iff_eq.mpr c4
            have c4b1 : ((rd l0 x3_1) != 0) = false := bne_eq_false_iff_eq.mpr c4
            clear c4
            have H' := Aside0.mk H
            clear H
            have p251 : 0 ≤ (x3_1 : Int) := of_decide_eq_true (by first | (with_reducible assumption) | assumption)
            have q251 : x3_1 < (l0.length : Int) := of_decide_eq_true (by first | (with_reducible assumption) | assumption)
            obtain ⟨ad251, e251, hx251_0⟩ := Kd.at_int HR0.out x3_1 p251 q251
            cases e251
            replace p251 := eq_true p251
            replace q251 := eq_true q251
            go_wp2
            go_roundg k1
            case measure => have := HK1.out; omega
            case rel => exact ⟨(wrap64 (x3_1 + 1)), (by first | rfl | (simp; done) | (simp [*]; done)), H', ⟨by have := HK1.out; omega⟩, by repeat (first | exact Drawn0.refl _ | apply Drawn0.step)⟩
          · rw [if_neg c4] at H
            have c4b0 : ((rd l0 x3_1) == 0) = false := beq_eq_false_iff_ne.mpr c4
            have c4b1 : ((rd l0 x3_1) != 0) = true := bne_iff_ne.mpr c4
            obtain rfl := Option.some.inj H
            have p251 : 0 ≤ (x3_1 : Int) := of_decide_eq_true (by first | (with_reducible assumption) | assumption)
            have q251 : x3_1 < (l0.length : Int) := of_decide_eq_true (by first | (with_reducible assumption) | assumption)
            obtain ⟨ad251, e251, hx251_0⟩ := Kd.at_int HR0.out x3_1 p251 q251
            cases e251
            replace p251 := eq_true p251
            replace q251 := eq_true q251
            go_wp2
            go_ret
            exact ⟨by first | rfl | (simp; done) | (simp [*]; done), by repeat (first | exact Drawn0.refl _ | apply Drawn0.step)⟩
        · rw [if_neg c3] at H
          exact absurd H (by simp)
      · rw [if_neg c2] at H
        have c2b0 : decide (x3_1 < (l0.length : Int)) = false := decide_eq_false c2
        clear c2
        obtain rfl := Option.some.inj H
        go_wp2
        go_ret
        exact ⟨by first | rfl | (simp; done) | (simp [*]; done), by repeat (first | exact Drawn0.refl _ | apply Drawn0.step)⟩

-- NOT PRINTED: function 35 (retconref13_Load)

-- NOT PRINTED: function 36 (disk_Disk_Steps)

-- NOT PRINTED: function 37 (disk_Disk_Loose)

-- NOT PRINTED: function 7 (retconlaw13_SuperScript)
end Go.Proofs.Ytgflghnbpbiakaa.XH
namespace Go.Proofs.Ytgflghnbpbiakaa.XH
open Go.RowKit Go.Proofs.YtgflghnbpbiakaaW.PrintWords Go.Proofs.YtgflghnbpbiakaaW.PrintLast Go.Proofs.YtgflghnbpbiakaaW.PrintMore
attribute [local go_sem] max2_int min2_int max_two min_two max_three min_three max_four min_four   -- for this text's walks alone
set_option linter.unusedVariables false
set_option linter.unusedSimpArgs false
mutual
def retconlaw13_large.l0 : Nat → List (S64) → Int → Option (Bool)
  | 0, _, _ => none
  | k + 1, x0, x3 => if x3 < (x0.length : Int) then (retconlaw13_large.j1 k x0 x3 (decide (x3 < 41))) else (retconlaw13_large.j1 k x0 x3 false)
def retconlaw13_large.j1 : Nat → List (S64) → Int → Bool → Option (Bool)
  | 0, _, _, _ => none
  | k + 1, x0, x3, x11 => if x11 = true then (if 0 ≤ x3 then (if x3 < (x0.length : Int) then (if (((rd_T64 x0 x3).f3).length : Int) > 100 then (retconlaw13_large.j2 k x0 x3 true) else (retconlaw13_large.j2 k x0 x3 (decide ((((rd_T64 x0 x3).f4).length : Int) > 100)))) else (none)) else (none)) else (some (decide ((x0.length : Int) > 40)))
def retconlaw13_large.j2 : Nat → List (S64) → Int → Bool → Option (Bool)
  | 0, _, _, _ => none
  | k + 1, x0, x3, x29 => if x29 = true then (some true) else (retconlaw13_large.l0 k x0 (wrap64 (x3 + 1)))
end
def retconlaw13_large.f (k : Nat) (l0 : List (S64)) : Option (Bool) := retconlaw13_large.l0 k l0 0
theorem retconlaw13_large.mono_l : ∀ k, (∀ y0 y1, LeO (retconlaw13_large.l0 k y0 y1) (retconlaw13_large.l0 (k + 1) y0 y1)) ∧ (∀ y0 y1 y2, LeO (retconlaw13_large.j1 k y0 y1 y2) (retconlaw13_large.j1 (k + 1) y0 y1 y2)) ∧ (∀ y0 y1 y2, LeO (retconlaw13_large.j2 k y0 y1 y2) (retconlaw13_large.j2 (k + 1) y0 y1 y2))
  | 0 => ⟨fun _ _ r h => by simp [retconlaw13_large.l0] at h, fun _ _ _ r h => by simp [retconlaw13_large.j1] at h, fun _ _ _ r h => by simp [retconlaw13_large.j2] at h⟩
  | k + 1 => by
    obtain ⟨ih0, ih1, ih2⟩ := retconlaw13_large.mono_l k
    refine ⟨?_, ?_, ?_⟩
    · intro y0 y1
      unfold retconlaw13_large.l0
      repeat' first
      | (with_reducible exact ih0 _ _)
      | (with_reducible exact ih1 _ _ _)
      | (with_reducible exact ih2 _ _ _)
      | (with_reducible exact LeO.refl _)
      | (with_reducible exact LeO.none _)
      | (with_reducible refine LeO.ite ?_ ?_)
      | (with_reducible refine LeO.bind ?_ (fun _ => ?_))
      | exact ih0 _ _
      | exact ih1 _ _ _
      | exact ih2 _ _ _
      | exact LeO.none _
      | refine LeO.ite ?_ ?_
      | refine LeO.bind ?_ (fun _ => ?_)
    · intro y0 y1 y2
      unfold retconlaw13_large.j1
      repeat' first
      | (with_reducible exact ih0 _ _)
      | (with_reducible exact ih1 _ _ _)
      | (with_reducible exact ih2 _ _ _)
      | (with_reducible exact LeO.refl _)
      | (with_reducible exact LeO.none _)
      | (with_reducible refine LeO.ite ?_ ?_)
      | (with_reducible refine LeO.bind ?_ (fun _ => ?_))
      | exact ih0 _ _
      | exact ih1 _ _ _
      | exact ih2 _ _ _
      | exact LeO.none _
      | refine LeO.ite ?_ ?_
      | refine LeO.bind ?_ (fun _ => ?_)
    · intro y0 y1 y2
      unfold retconlaw13_large.j2
      repeat' first
      | (with_reducible exact ih0 _ _)
      | (with_reducible exact ih1 _ _ _)
      | (with_reducible exact ih2 _ _ _)
      | (with_reducible exact LeO.refl _)
      | (with_reducible exact LeO.none _)
      | (with_reducible refine LeO.ite ?_ ?_)
      | (with_reducible refine LeO.bind ?_ (fun _ => ?_))
      | exact ih0 _ _
      | exact ih1 _ _ _
      | exact ih2 _ _ _
      | exact LeO.none _
      | refine LeO.ite ?_ ?_
      | refine LeO.bind ?_ (fun _ => ?_)
theorem retconlaw13_large.mono : ∀ a0 k, LeO (retconlaw13_large.f k a0) (retconlaw13_large.f (k + 1) a0) := by
  intro a0 k
  obtain ⟨ih0, ih1, ih2⟩ := retconlaw13_large.mono_l k
  unfold retconlaw13_large.f
  repeat' first
      | (with_reducible exact ih0 _ _)
      | (with_reducible exact ih1 _ _ _)
      | (with_reducible exact ih2 _ _ _)
      | (with_reducible exact LeO.refl _)
      | (with_reducible exact LeO.none _)
      | (with_reducible refine LeO.ite ?_ ?_)
      | (with_reducible refine LeO.bind ?_ (fun _ => ?_))
      | exact ih0 _ _
      | exact ih1 _ _ _
      | exact ih2 _ _ _
      | exact LeO.none _
      | refine LeO.ite ?_ ?_
      | refine LeO.bind ?_ (fun _ => ?_)
set_option maxHeartbeats 8000000 in
set_option maxRecDepth 100000 in
theorem retconlaw13_large.calls (k : Nat) (A0 : Option Addr) (c0 : Nat) (l0 : List (S64)) (r : Bool) (w : World) (hr0 : Kd.C k64 w A0 l0.length l0) (hc0 : l0.length ≤ c0) (h : retconlaw13_large.f k l0 = some r) :
    Calls Try.prog 28 #[.slice A0 l0.length c0] w fun e w' => e = .returned (.bool r) ∧ Drawn0 w w' := by
  have HR0 := Aside0.mk hr0
  have HC0 := Aside0.mk hc0
  clear hr0 hc0
  have H : (retconlaw13_large.l0 k l0 0) = some r := h
  clear h
  have H' := Aside0.mk H
  clear H
  go_enter Try.func28, Try.ntmps28
  go_wp2
  go_loopg [3] k (fun kq v3 w' => ∃ (x3_1 : Int), v3 = .int .i64 x3_1 ∧ Aside0 (retconlaw13_large.l0 kq l0 x3_1 = some r) ∧ Aside0 (kq ≤ k) ∧ Drawn0 w w')
  case atStart => exact ⟨(0), (by first | rfl | (simp; done) | (simp [*]; done)), H', ⟨Nat.le_refl _⟩, by repeat (first | exact Drawn0.refl _ | apply Drawn0.step)⟩
  case round =>
    clear H'
    obtain ⟨x3_1, rfl, HA, HK1, ⟨m1, rfl⟩⟩ := hrel
    cases gk with
    | zero => exact absurd HA.out (by simp [retconlaw13_large.l0])
    | succ k1 =>
      have H := HA.out
      clear HA
      simp only [retconlaw13_large.l0] at H
      have HC2 := Aside0.mk H
      clear H
      go_upto_region 2 with (fail)
      go_cut [11] (fun v11 wc => ∃ (kq : Nat) (x11_1 : Bool), v11 = .bool x11_1 ∧ Aside0 (retconlaw13_large.j1 kq l0 x3_1 x11_1 = some r) ∧ Aside0 (kq ≤ k1) ∧ Drawn0 w wc)
      case first =>
        have H := HC2.out
        clear HC2
        by_cases c3 : x3_1 < (l0.length : Int)
        · rw [if_pos c3] at H
          have c3b0 : decide (x3_1 < (l0.length : Int)) = true := decide_eq_true c3
          clear c3
          (first | rw [c3b0] | (simp only [i64_w, i32_w]; rw [c3b0]) | skip)
          have H' := Aside0.mk H
          clear H
          go_wp2
          go_meet
          case rel => exact ⟨_, (decide (x3_1 < 41)), (by first | rfl | (simp; done) | (simp [*]; done)), H', ⟨by have := HK1.out; first | omega | exact Nat.le_refl _⟩, by repeat (first | exact Drawn0.refl _ | apply Drawn0.step)⟩
        · rw [if_neg c3] at H
          have c3b0 : decide (x3_1 < (l0.length : Int)) = false := decide_eq_false c3
          clear c3
          (first | rw [c3b0] | (simp only [i64_w, i32_w]; rw [c3b0]) | skip)
          have H' := Aside0.mk H
          clear H
          go_wp2
          go_meet
          case rel => exact ⟨_, (false), (by first | rfl | (simp; done) | (simp [*]; done)), H', ⟨by have := HK1.out; first | omega | exact Nat.le_refl _⟩, by repeat (first | exact Drawn0.refl _ | apply Drawn0.step)⟩
      case rest =>
        clear HC2
        try clear c2
        try clear p2
        try clear c3
        try clear c3b0
        obtain ⟨kq, x11_1, rfl, HA, HJ1, ⟨mc1, rfl⟩⟩ := hcut
        cases kq with
        | zero => exact absurd HA.out (by simp [retconlaw13_large.j1])
        | succ kj1 =>
          have H := HA.out
          clear HA
          simp only [retconlaw13_large.j1] at H
          by_cases c4 : x11_1 = true
          · subst c4
            have H1 : (if 0 ≤ x3_1 then (if x3_1 < (l0.length : Int) then (if (((rd_T64 l0 x3_1).f3).length : Int) > 100 then (retconlaw13_large.j2 kj1 l0 x3_1 true) else (retconlaw13_large.j2 kj1 l0 x3_1 (decide ((((rd_T64 l0 x3_1).f4).length : Int) > 100)))) else (none)) else (none)) = some r := by rw [if_pos rfl] at H; exact H
            clear H
            have H := H1
            clear H1
            have HC5 := Aside0.mk H
            clear H
            go_upto_region 4 with (fail)
            go_cut [29] (fun v29 wc => ∃ (kq : Nat) (x29_4 : Bool), v29 = .bool x29_4 ∧ Aside0 (retconlaw13_large.j2 kq l0 x3_1 x29_4 = some r) ∧ Aside0 (kq ≤ kj1) ∧ Drawn0 w wc)
            case first =>
              have H := HC5.out
              clear HC5
              by_cases c6 : 0 ≤ x3_1
              · rw [if_pos c6] at H
                have c6b0 : decide (0 ≤ x3_1) = true := decide_eq_true c6
                clear c6
                (first | rw [c6b0] | (simp only [i64_w, i32_w]; rw [c6b0]) | skip)
                by_cases c7 : x3_1 < (l0.length : Int)
                · rw [if_pos c7] at H
                  have c7b0 : decide (x3_1 < (l0.length : Int)) = true := decide_eq_true c7
                  clear c7
                  by_cases c8 : (((rd_T64 l0 x3_1).f3).length : Int) > 100
                  · rw [if_pos c8] at H
                    have c8b0 : decide (100 < (((rd_T64 l0 x3_1).f3).length : Int)) = true := decide_eq_true c8
                    have c8b1 : decide (100 < ((rd_T64 l0 x3_1).f3).length) = true := decide_eq_true (by omega)
                    clear c8
                    have H' := Aside0.mk H
                    clear H
                    have p219 : 0 ≤ (x3_1 : Int) := of_decide_eq_true (by first | (with_reducible assumption) | assumption)
                    have q219 : x3_1 < (l0.length : Int) := of_decide_eq_true (by first | (with_reducible assumption) | assumption)
                    obtain ⟨ad219, A219_37, c219_37, A219_38, c219_38, e219, hx219_0, hx219_1, hx219_2, hx219_3, hx219_4, hx219_5, hx219_6, hx219_7, hx219_8, hx219_9, hx219_10, hx219_11, hx219_12, hx219_13, hx219_14, hx219_15, hx219_16, hx219_17, hx219_18, hx219_19, hx219_20, hx219_21, hx219_22, hx219_23, hx219_24, hx219_25, hx219_26, hx219_27, hx219_28, hx219_29, hx219_30, hx219_31, hx219_32, hx219_33, hx219_34, hx219_35, hx219_36, hx219_37, hx219_38, hl219_37, hi219_37, hl219_38, hi219_38⟩ := at_T64 HR0.out x3_1 p219 q219
                    cases e219
                    have HR219_37 := Aside0.mk hi219_37
                    have HC219_37 := Aside0.mk hl219_37
                    clear hi219_37 hl219_37
                    have HR219_38 := Aside0.mk hi219_38
                    have HC219_38 := Aside0.mk hl219_38
                    clear hi219_38 hl219_38
                    (first | (obtain ⟨hr219, hrn219⟩ := row64_mk hx219_0 hx219_1 hx219_2 hx219_3 hx219_4 hx219_5 hx219_6 hx219_7 hx219_8 hx219_9 hx219_10 hx219_11 hx219_12 hx219_13 hx219_14 hx219_15 hx219_16 hx219_17 hx219_18 hx219_19 hx219_20 hx219_21 hx219_22 hx219_23 hx219_24 hx219_25 hx219_26 hx219_27 hx219_28 hx219_29 hx219_30 hx219_31 hx219_32 hx219_33 hx219_34 hx219_35 hx219_36 hx219_37 hx219_38; clear hx219_3 hx219_4 hx219_5 hx219_6 hx219_7 hx219_8 hx219_9 hx219_10 hx219_11 hx219_12 hx219_13 hx219_14 hx219_15 hx219_16 hx219_17 hx219_18 hx219_19 hx219_20 hx219_21 hx219_22 hx219_23 hx219_24 hx219_25 hx219_26 hx219_27 hx219_28 hx219_29 hx219_30 hx219_31 hx219_32 hx219_33 hx219_34) | skip)
                    replace p219 := eq_true p219
                    replace q219 := eq_true q219
                    go_wp2
                    go_meet
                    case rel => exact ⟨_, (true), (by first | rfl | (simp; done) | (simp [*]; done)), H', ⟨by have := HK1.out; have := HJ1.out; first | omega | exact Nat.le_refl _⟩, by repeat (first | exact Drawn0.refl _ | apply Drawn0.step)⟩
                  · rw [if_neg c8] at H
                    have c8b0 : decide (100 < (((rd_T64 l0 x3_1).f3).length : Int)) = false := decide_eq_false c8
                    have c8b1 : decide (100 < ((rd_T64 l0 x3_1).f3).length) = false := decide_eq_false (by omega)
                    clear c8
                    have H' := Aside0.mk H
                    clear H
                    have p219 : 0 ≤ (x3_1 : Int) := of_decide_eq_true (by first | (with_reducible assumption) | assumption)
                    have q219 : x3_1 < (l0.length : Int) := of_decide_eq_true (by first | (with_reducible assumption) | assumption)
                    obtain ⟨ad219, A219_37, c219_37, A219_38, c219_38, e219, hx219_0, hx219_1, hx219_2, hx219_3, hx219_4, hx219_5, hx219_6, hx219_7, hx219_8, hx219_9, hx219_10, hx219_11, hx219_12, hx219_13, hx219_14, hx219_15, hx219_16, hx219_17, hx219_18, hx219_19, hx219_20, hx219_21, hx219_22, hx219_23, hx219_24, hx219_25, hx219_26, hx219_27, hx219_28, hx219_29, hx219_30, hx219_31, hx219_32, hx219_33, hx219_34, hx219_35, hx219_36, hx219_37, hx219_38, hl219_37, hi219_37, hl219_38, hi219_38⟩ := at_T64 HR0.out x3_1 p219 q219
                    cases e219
                    have HR219_37 := Aside0.mk hi219_37
                    have HC219_37 := Aside0.mk hl219_37
                    clear hi219_37 hl219_37
                    have HR219_38 := Aside0.mk hi219_38
                    have HC219_38 := Aside0.mk hl219_38
                    clear hi219_38 hl219_38
                    (first | (obtain ⟨hr219, hrn219⟩ := row64_mk hx219_0 hx219_1 hx219_2 hx219_3 hx219_4 hx219_5 hx219_6 hx219_7 hx219_8 hx219_9 hx219_10 hx219_11 hx219_12 hx219_13 hx219_14 hx219_15 hx219_16 hx219_17 hx219_18 hx219_19 hx219_20 hx219_21 hx219_22 hx219_23 hx219_24 hx219_25 hx219_26 hx219_27 hx219_28 hx219_29 hx219_30 hx219_31 hx219_32 hx219_33 hx219_34 hx219_35 hx219_36 hx219_37 hx219_38; clear hx219_3 hx219_4 hx219_5 hx219_6 hx219_7 hx219_8 hx219_9 hx219_10 hx219_11 hx219_12 hx219_13 hx219_14 hx219_15 hx219_16 hx219_17 hx219_18 hx219_19 hx219_20 hx219_21 hx219_22 hx219_23 hx219_24 hx219_25 hx219_26 hx219_27 hx219_28 hx219_29 hx219_30 hx219_31 hx219_32 hx219_33 hx219_34) | skip)
                    replace p219 := eq_true p219
                    replace q219 := eq_true q219
                    have p220 : 0 ≤ (x3_1 : Int) := of_decide_eq_true (by first | (with_reducible assumption) | assumption)
                    have q220 : x3_1 < (l0.length : Int) := of_decide_eq_true (by first | (with_reducible assumption) | assumption)
                    obtain ⟨ad220, A220_37, c220_37, A220_38, c220_38, e220, hx220_0, hx220_1, hx220_2, hx220_3, hx220_4, hx220_5, hx220_6, hx220_7, hx220_8, hx220_9, hx220_10, hx220_11, hx220_12, hx220_13, hx220_14, hx220_15, hx220_16, hx220_17, hx220_18, hx220_19, hx220_20, hx220_21, hx220_22, hx220_23, hx220_24, hx220_25, hx220_26, hx220_27, hx220_28, hx220_29, hx220_30, hx220_31, hx220_32, hx220_33, hx220_34, hx220_35, hx220_36, hx220_37, hx220_38, hl220_37, hi220_37, hl220_38, hi220_38⟩ := at_T64 HR0.out x3_1 p220 q220
                    obtain rfl : ad219 = ad220 := (by injection e220)
                    have HR220_37 := Aside0.mk hi220_37
                    have HC220_37 := Aside0.mk hl220_37
                    clear hi220_37 hl220_37
                    have HR220_38 := Aside0.mk hi220_38
                    have HC220_38 := Aside0.mk hl220_38
                    clear hi220_38 hl220_38
                    (first | (obtain ⟨hr220, hrn220⟩ := row64_mk hx220_0 hx220_1 hx220_2 hx220_3 hx220_4 hx220_5 hx220_6 hx220_7 hx220_8 hx220_9 hx220_10 hx220_11 hx220_12 hx220_13 hx220_14 hx220_15 hx220_16 hx220_17 hx220_18 hx220_19 hx220_20 hx220_21 hx220_22 hx220_23 hx220_24 hx220_25 hx220_26 hx220_27 hx220_28 hx220_29 hx220_30 hx220_31 hx220_32 hx220_33 hx220_34 hx220_35 hx220_36 hx220_37 hx220_38; clear hx220_3 hx220_4 hx220_5 hx220_6 hx220_7 hx220_8 hx220_9 hx220_10 hx220_11 hx220_12 hx220_13 hx220_14 hx220_15 hx220_16 hx220_17 hx220_18 hx220_19 hx220_20 hx220_21 hx220_22 hx220_23 hx220_24 hx220_25 hx220_26 hx220_27 hx220_28 hx220_29 hx220_30 hx220_31 hx220_32 hx220_33 hx220_34) | skip)
                    replace p220 := eq_true p220
                    replace q220 := eq_true q220
                    have ea_ := Option.some.inj (hx219_37.symm.trans hx220_37)
                    injection ea_ with ea_ en_ ec_
                    subst ea_
                    subst ec_
                    clear en_
                    have ea_ := Option.some.inj (hx219_38.symm.trans hx220_38)
                    injection ea_ with ea_ en_ ec_
                    subst ea_
                    subst ec_
                    clear en_
                    go_wp2
                    go_meet
                    case rel => exact ⟨_, (decide ((((rd_T64 l0 x3_1).f4).length : Int) > 100)), (by first | rfl | (simp; done) | (simp [*]; done)), H', ⟨by have := HK1.out; have := HJ1.out; first | omega | exact Nat.le_refl _⟩, by repeat (first | exact Drawn0.refl _ | apply Drawn0.step)⟩
                · rw [if_neg c7] at H
                  exact absurd H (by simp)
              · rw [if_neg c6] at H
                exact absurd H (by simp)
            case rest =>
              clear HC5
              try clear c1
              try clear c2
              try clear p2
              try clear q2
              try clear hx2
              try clear c3
              try clear c3b0
              try clear c4
              try clear c6
              try clear c6b0
              try clear c7
              try clear c7b0
              try clear c8
              try clear c8b0
              try clear c8b1
              try clear hx219_0
              try clear hx219_1
              try clear hx219_10
              try clear hx219_11
              try clear hx219_12
              try clear hx219_13
              try clear hx219_14
              try clear hx219_15
              try clear hx219_16
              try clear hx219_17
              try clear hx219_18
              try clear hx219_19
              try clear hx219_2
              try clear hx219_20
              try clear hx219_21
              try clear hx219_22
              try clear hx219_23
              try clear hx219_24
              try clear hx219_25
              try clear hx219_26
              try clear hx219_27
              try clear hx219_28
              try clear hx219_29
              try clear hx219_3
              try clear hx219_30
              try clear hx219_31
              try clear hx219_32
              try clear hx219_33
              try clear hx219_34
              try clear hx219_35
              try clear hx219_36
              try clear hx219_37
              try clear hx219_38
              try clear hx219_4
              try clear hx219_5
              try clear hx219_6
              try clear hx219_7
              try clear hx219_8
              try clear hx219_9
              try clear hx220_0
              try clear hx220_1
              try clear hx220_10
              try clear hx220_11
              try clear hx220_12
              try clear hx220_13
              try clear hx220_14
              try clear hx220_15
              try clear hx220_16
              try clear hx220_17
              try clear hx220_18
              try clear hx220_19
              try clear hx220_2
              try clear hx220_20
              try clear hx220_21
              try clear hx220_22
              try clear hx220_23
              try clear hx220_24
              try clear hx220_25
              try clear hx220_26
              try clear hx220_27
              try clear hx220_28
              try clear hx220_29
              try clear hx220_3
              try clear hx220_30
              try clear hx220_31
              try clear hx220_32
              try clear hx220_33
              try clear hx220_34
              try clear hx220_35
              try clear hx220_36
              try clear hx220_37
              try clear hx220_38
              try clear hx220_4
              try clear hx220_5
              try clear hx220_6
              try clear hx220_7
              try clear hx220_8
              try clear hx220_9
              try clear p2
              try clear p219
              try clear p220
              try clear q219
              try clear q220
              obtain ⟨kq, x29_4, rfl, HA, HJ4, ⟨mc4, rfl⟩⟩ := hcut
              cases kq with
              | zero => exact absurd HA.out (by simp [retconlaw13_large.j2])
              | succ kj4 =>
                have H := HA.out
                clear HA
                simp only [retconlaw13_large.j2] at H
                by_cases c9 : x29_4 = true
                · subst c9
                  have H1 : (some true) = some r := by rw [if_pos rfl] at H; exact H
                  clear H
                  have H := H1
                  clear H1
                  obtain rfl := Option.some.inj H
                  go_wp2
                  go_ret
                  exact ⟨by first | rfl | (simp; done) | (simp [*]; done), by repeat (first | exact Drawn0.refl _ | apply Drawn0.step)⟩
                · replace c9 := Bool.eq_false_iff.mpr c9
                  subst c9
                  have H1 : (retconlaw13_large.l0 kj4 l0 (wrap64 (x3_1 + 1))) = some r := by rw [if_neg (show ¬ (false = true) by decide)] at H; exact H
                  clear H
                  have H := H1
                  clear H1
                  have H' := Aside0.mk H
                  clear H
                  go_wp2
                  go_roundg kj4
                  case measure => have := HK1.out; have := HJ1.out; have := HJ4.out; omega
                  case rel => exact ⟨(wrap64 (x3_1 + 1)), (by first | rfl | (simp; done) | (simp [*]; done)), H', ⟨by have := HK1.out; have := HJ1.out; have := HJ4.out; omega⟩, by repeat (first | exact Drawn0.refl _ | apply Drawn0.step)⟩
          · replace c4 := Bool.eq_false_iff.mpr c4
            subst c4
            have H1 : (some (decide ((l0.length : Int) > 40))) = some r := by rw [if_neg (show ¬ (false = true) by decide)] at H; exact H
            clear H
            have H := H1
            clear H1
            obtain rfl := Option.some.inj H
            go_wp2
            go_ret
            exact ⟨by first | rfl | (simp; done) | (simp [*]; done), by repeat (first | exact Drawn0.refl _ | apply Drawn0.step)⟩
/-- A state of type 72 at block g of W; what its slices lead to came in by w0. -/
def IsS72 (w0 W : World) (g : Nat) (f0 : Int) (f1 : List (S102)) (f2 : List (S102)) (f3 : Bool) (f4 : Int) (f5 : Int) (f6 : Bool) : Prop := ∃ A1 c1, ∃ A2 c2, W.heap[g]? = some (.cells #[.int .i64 f0, .slice A1 f1.length c1, .slice A2 f2.length c2, .bool f3, .int .i64 f4, .int .i64 f5, .bool f6] 72 (0, 0)) ∧ w0.heap.size ≤ g ∧ Kd.C k102 w0 A1 f1.length f1 ∧ Kd.C k102 w0 A2 f2.length f2
theorem IsS72.grown {w0 W : World} {g : Nat} {f0 : Int} {f1 : List (S102)} {f2 : List (S102)} {f3 : Bool} {f4 : Int} {f5 : Int} {f6 : Bool} {W1 : World} {row : Option Nat} (h : IsS72 w0 W g f0 f1 f2 f3 f4 f5 f6) (hw : W.grownBy W1 row) (hne : some g ≠ row) : IsS72 w0 W1 g f0 f1 f2 f3 f4 f5 f6 := by
  obtain ⟨A1, c1, A2, c2, hb, hg, hr1, hr2⟩ := h
  exact ⟨A1, c1, A2, c2, blk_grown hb hw hne, hg, hr1, hr2⟩
theorem IsS72.kept {w0 W : World} {g : Nat} {f0 : Int} {f1 : List (S102)} {f2 : List (S102)} {f3 : Bool} {f4 : Int} {f5 : Int} {f6 : Bool} {W1 : World} {S : Nat → Prop} (h : IsS72 w0 W g f0 f1 f2 f3 f4 f5 f6) (hk : Kept W W1 S) (hne : ¬ S g) : IsS72 w0 W1 g f0 f1 f2 f3 f4 f5 f6 := by
  obtain ⟨A1, c1, A2, c2, hb, hg, hr1, hr2⟩ := h
  exact ⟨A1, c1, A2, c2, blk_kept hb hk hne, hg, hr1, hr2⟩
theorem IsS72.below {w0 W : World} {g : Nat} {f0 : Int} {f1 : List (S102)} {f2 : List (S102)} {f3 : Bool} {f4 : Int} {f5 : Int} {f6 : Bool} {W1 : World} (h : IsS72 w0 W g f0 f1 f2 f3 f4 f5 f6) (hw : Below W.heap.size W W1) : IsS72 w0 W1 g f0 f1 f2 f3 f4 f5 f6 := h.grown (grown_of_below hw none) (by simp)
theorem IsS72.alloc {w0 W : World} {g : Nat} {f0 : Int} {f1 : List (S102)} {f2 : List (S102)} {f3 : Bool} {f4 : Int} {f5 : Int} {f6 : Bool} (h : IsS72 w0 W g f0 f1 f2 f3 f4 f5 f6) (o : Obj) : IsS72 w0 (W.alloc o) g f0 f1 f2 f3 f4 f5 f6 := h.below (below_alloc (Below.refl _ _) o)
theorem IsS72.drewN {w0 W : World} {g : Nat} {f0 : Int} {f1 : List (S102)} {f2 : List (S102)} {f3 : Bool} {f4 : Int} {f5 : Int} {f6 : Bool} (h : IsS72 w0 W g f0 f1 f2 f3 f4 f5 f6) (m : Nat) : IsS72 w0 (W.drewN m) g f0 f1 f2 f3 f4 f5 f6 := h
theorem IsS72.drew {w0 W : World} {g : Nat} {f0 : Int} {f1 : List (S102)} {f2 : List (S102)} {f3 : Bool} {f4 : Int} {f5 : Int} {f6 : Bool} (h : IsS72 w0 W g f0 f1 f2 f3 f4 f5 f6) : IsS72 w0 W.drew g f0 f1 f2 f3 f4 f5 f6 := h
theorem IsS72.at_ {w0 W : World} {g : Nat} {f0 : Int} {f1 : List (S102)} {f2 : List (S102)} {f3 : Bool} {f4 : Int} {f5 : Int} {f6 : Bool} {w' : World} {m : Nat} (hq : W.drewN m = w') (h : IsS72 w0 W g f0 f1 f2 f3 f4 f5 f6) : IsS72 w0 w' g f0 f1 f2 f3 f4 f5 f6 := by subst hq; exact IsS72.drewN h m
theorem IsS72.apart {w0 W : World} {g : Nat} {f0 : Int} {f1 : List (S102)} {f2 : List (S102)} {f3 : Bool} {f4 : Int} {f5 : Int} {f6 : Bool} {α : Type} {d : Kd α} {e : Nat} {base : Nat} {ok : Nat → Prop} {v : Value} {xs : List α} (h : IsS72 w0 W g f0 f1 f2 f3 f4 f5 f6) (ho : d.R e W base ok v xs) (ht : ∀ q, q ∈ e :: d.E → q ≠ 72) : d.R e W base (fun k => ok k ∧ k ≠ g) v xs := by
  obtain ⟨A1, c1, A2, c2, hb, hg, hr1, hr2⟩ := h
  exact Kd.R_types ho hb ht
theorem IsS72.own_ne {w0 W : World} {g : Nat} {f0 : Int} {f1 : List (S102)} {f2 : List (S102)} {f3 : Bool} {f4 : Int} {f5 : Int} {f6 : Bool} {α : Type} {d : Kd α} {e : Nat} {base : Nat} {ok : Nat → Prop} {v : Value} {xs : List α} (h : IsS72 w0 W g f0 f1 f2 f3 f4 f5 f6) (ho : d.R e W base ok v xs) (ht : e ≠ 72) : some g ≠ v.ownBlock := by
  obtain ⟨A1, c1, A2, c2, hb, hg, hr1, hr2⟩ := h
  exact Kd.R_ne ho hb ht
theorem IsS72.lt {w0 W : World} {g : Nat} {f0 : Int} {f1 : List (S102)} {f2 : List (S102)} {f3 : Bool} {f4 : Int} {f5 : Int} {f6 : Bool} (h : IsS72 w0 W g f0 f1 f2 f3 f4 f5 f6) : g < W.heap.size := by
  obtain ⟨A1, c1, A2, c2, hb, hg, hr1, hr2⟩ := h
  exact blk_lt hb
theorem IsS72.new (w0 W : World) (A1 : Option Addr) (c1 : Nat) (A2 : Option Addr) (c2 : Nat) (f0 : Int) (f1 : List (S102)) (f2 : List (S102)) (f3 : Bool) (f4 : Int) (f5 : Int) (f6 : Bool) (hB : Below w0.heap.size w0 W) (hr1 : Kd.C k102 w0 A1 f1.length f1) (hr2 : Kd.C k102 w0 A2 f2.length f2) : IsS72 w0 (W.alloc (.cells #[.int .i64 f0, .slice A1 f1.length c1, .slice A2 f2.length c2, .bool f3, .int .i64 f4, .int .i64 f5, .bool f6] 72)) W.heap.size f0 f1 f2 f3 f4 f5 f6 := ⟨A1, c1, A2, c2, by simpa using heap_alloc_new W _, hB.size, hr1, hr2⟩
end Go.Proofs.Ytgflghnbpbiakaa.XH
