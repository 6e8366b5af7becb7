import Derived.Test.YtobleaodacnpiaaXEfretconlaw14ExtentKnown
namespace Go.Proofs.Ytobleaodacnpiaa.Pure
open Go.RowKit Go.Proofs.Ytobleaodacnpiaa.XE Go.Proofs.YtobleaodacnpiaaW.PrintWords Go.Proofs.YtobleaodacnpiaaW.PrintLast

theorem ExtentKnown : retconlaw14_ExtentKnown.Pure := by
  exact ⟨60, by kernel_rfl⟩

end Go.Proofs.Ytobleaodacnpiaa.Pure
