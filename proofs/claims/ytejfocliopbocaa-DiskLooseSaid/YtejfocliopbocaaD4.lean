import Derived.Test.YtejfocliopbocaaD3
namespace Go.Proofs.Ytejfocliopbocaa.D
open Go.RowKit Go.Proofs.Ytejfocliopbocaa.XD Go.Proofs.YtejfocliopbocaaW.PrintWords Go.Proofs.YtejfocliopbocaaW.PrintLast Go.Proofs.YtejfocliopbocaaW.PrintMore Go.Proofs.YtejfocliopbocaaXe Go.Proofs.YtejfocliopbocaaXs
set_option linter.unusedVariables false
set_option linter.unusedSimpArgs false
theorem set_selfD {α : Type} {l : List α} {i : Nat} {x : α} (h : l[i]? = some x) : l.set i x = l := by
  apply List.ext_getElem?
  intro j
  have hi : i < l.length := (List.getElem?_eq_some_iff.1 h).1
  rw [List.getElem?_set]
  split
  · subst_vars
    first | exact h.symm | (rw [if_pos hi, h])
  · rfl
set_option maxHeartbeats 8000000 in
set_option maxRecDepth 100000 in
theorem c_fuse {w0 w : World} {Rs : List Res} (HP : Hp w0 w Rs) (i g : Nat) (steps fuse : Int) (out : Bool) (many : Int) (gm : Nat) (l : Value) (n : Int) (hi : Rs[i]? = some (.blk g (.cells (dC steps fuse out true many gm l).toArray 63 (0, 0)))) :
    Calls Try.prog 15 #[.pointer (some ⟨g, 0, none⟩), .int .i64 n] w fun e w' => e = .returned (.int .i64 (if n < 0 then 2 else 0)) ∧ Hp w0 w' (Rs.set i (.blk g (.cells (dC steps (if n < 0 then fuse else n) out true many gm l).toArray 63 (0, 0)))) := by
  have HG := Aside0.mk HP
  have HN := Aside0.mk (c_none g steps fuse out many gm l w (HP.blk i hi))
  have hc : w.cell? ⟨g, 1, none⟩ = some (.int .i64 fuse) := blk_cell (HP.blk i hi) 1
  have hf := blk_frozen (HP.blk i hi) 1
  have HI := Aside0.mk hi
  have HP2 := Aside0.mk (HP.setCell i hi 1 (.int .i64 n))
  clear HP hi
  by_cases c1 : n < 0
  · have d1 : decide (n < 0) = true := decide_eq_true c1
    rw [if_pos c1, if_pos c1]
    clear hc hf HP2
    go_enter Try.func15, Try.ntmps15
    go_wp2_with fail
    refine HN.out.mono ?_; rintro e w_ ⟨rfl, rfl⟩
    go_wp2_with fail
    go_ret
    exact ⟨rfl, by rw [set_selfD HI.out]; exact HG.out⟩
  · have d1 : decide (n < 0) = false := decide_eq_false c1
    rw [if_neg c1, if_neg c1]
    go_enter Try.func15, Try.ntmps15
    go_wp2_with fail
    refine HN.out.mono ?_; rintro e w_ ⟨rfl, rfl⟩
    go_wp2_with fail
    go_ret
    exact ⟨rfl, HP2.out⟩
end Go.Proofs.Ytejfocliopbocaa.D
