import Derived.Test.YtobleaodacnpiaaXEfretconlaw14ExtentTells
import Derived.Test.YtobleaodacnpiaaTh4
namespace Go.Proofs.Ytobleaodacnpiaa.Pure
open Go.RowKit Go.Proofs.Ytobleaodacnpiaa.XE Go.Proofs.YtobleaodacnpiaaW.PrintWords Go.Proofs.YtobleaodacnpiaaW.PrintLast Go.Proofs.YtobleaodacnpiaaXe Go.Proofs.Ytobleaodacnpiaa.Th
set_option linter.unusedVariables false
theorem awake : Et (fun k => retconlaw14_awake.f k) true := Et.of_mono retconlaw14_awake.mono (K := 60) (by kernel_rfl)
theorem ExtentTells : retconlaw14_ExtentTells.Pure := by
  intro l a1 _ _ hw h1
  have hW : Wf l := fun x hx => ⟨wf64 (hw x hx).1, wf64 (hw x hx).2⟩
  have h1' := wf64 h1
  refine Et.out (f := fun k => retconlaw14_ExtentTells.f k l a1) ?_
  unfold retconlaw14_ExtentTells.f
  refine Et.ite (fun c => Et.bind awake (Et.ret _)) fun c => ?_
  have hc : retconkit_CopyExtents.f l = some l := by
    unfold retconkit_CopyExtents.f
    simp only [Option.bind_some]
    rw [if_pos (by simp; omega)]
    simp
  rw [hc]
  simp only [Option.bind_some]
  refine Et.bind (check l (by omega) hW) (Et.bind (rcheck l (by omega) hW) (Et.pos rfl ?_))
  refine Et.bind (total l (by omega) hW) (Et.bind (rtotal l (by omega) hW) (Et.pos rfl ?_))
  refine Et.bind (has l a1 (by omega) hW) (Et.bind (rhas l a1 h1' (by omega) hW) ?_)
  rw [BEq.rfl]
  refine Et.succ ?_
  simp only [retconlaw14_ExtentTells.j0]
  exact Et.pos (by trivial) (Et.bind (same l l (by omega)) (Et.pos (by simp) (Et.bind awake (Et.ret _))))
end Go.Proofs.Ytobleaodacnpiaa.Pure
