import Derived.Test.YtejfocliopbocaaD5
namespace Go.Proofs.Ytejfocliopbocaa.D
open Go.RowKit Go.Proofs.Ytejfocliopbocaa.XD Go.Proofs.YtejfocliopbocaaW.PrintWords Go.Proofs.YtejfocliopbocaaW.PrintLast Go.Proofs.YtejfocliopbocaaW.PrintMore Go.Proofs.YtejfocliopbocaaXe Go.Proofs.YtejfocliopbocaaXs
set_option linter.unusedVariables false
set_option linter.unusedSimpArgs false

set_option maxHeartbeats 8000000 in
set_option maxRecDepth 100000 in
theorem c_step0 {w0 w : World} {Rs : List Res} (HP : Hp w0 w Rs) (i g : Nat) (steps fuse : Int) (out made : Bool) (many : Int) (gm : Nat) (l : Value) (fv : Value) (hi : Rs[i]? = some (.blk g (.cells (dC steps fuse out made many gm l).toArray 63 (0, 0)))) (h : out = true ∨ fuse = 0) :
    Calls Try.prog 30 #[.pointer (some ⟨g, 0, none⟩), fv] w fun e w' => e = .returned (.int .i64 10) ∧ Hp w0 w' (Rs.set i (.blk g (.cells (dC steps fuse true made many gm l).toArray 63 (0, 0)))) := by
  have hc2 : w.cell? ⟨g, 2, none⟩ = some (.bool out) := blk_cell (HP.blk i hi) 2
  have hc1 : w.cell? ⟨g, 1, none⟩ = some (.int .i64 fuse) := blk_cell (HP.blk i hi) 1
  have hf2 := blk_frozen (HP.blk i hi) 2
  have HP2 := Aside0.mk (HP.setCell i hi 2 (.bool true))
  clear HP hi
  cases out with
  | true =>
    clear h
    go_enter Try.func30, Try.ntmps30
    go_wp2_with fail
    go_ret
    exact ⟨rfl, HP2.out⟩
  | false =>
    obtain rfl : fuse = 0 := by simpa using h
    clear h
    go_enter Try.func30, Try.ntmps30
    go_wp2_with fail
    go_ret
    exact ⟨rfl, HP2.out⟩
end Go.Proofs.Ytejfocliopbocaa.D
