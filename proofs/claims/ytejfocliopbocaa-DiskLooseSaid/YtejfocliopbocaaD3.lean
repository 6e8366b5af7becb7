import Derived.Test.YtejfocliopbocaaD2
namespace Go.Proofs.Ytejfocliopbocaa.D
open Go.RowKit Go.Proofs.Ytejfocliopbocaa.XD Go.Proofs.YtejfocliopbocaaW.PrintWords Go.Proofs.YtejfocliopbocaaW.PrintLast Go.Proofs.YtejfocliopbocaaW.PrintMore Go.Proofs.YtejfocliopbocaaXe Go.Proofs.YtejfocliopbocaaXs
set_option linter.unusedVariables false
set_option linter.unusedSimpArgs false
set_option maxHeartbeats 8000000 in
set_option maxRecDepth 100000 in
theorem c_len (g : Nat) (steps fuse : Int) (out : Bool) (many : Int) (gm : Nat) (l : Value) (w : World) (hg : w.heap[g]? = some (.cells (dC steps fuse out true many gm l).toArray 63 (0, 0))) :
    Calls Try.prog 27 #[.pointer (some ⟨g, 0, none⟩)] w fun e w' => e = .returned (.int .i64 many) ∧ w' = w := by
  have h4 : w.cell? ⟨g, 4, none⟩ = some (.int .i64 many) := blk_cell hg 4
  have HN := Aside0.mk (c_none g steps fuse out many gm l w hg)
  clear hg
  go_enter Try.func27, Try.ntmps27
  go_wp2_with fail
  refine HN.out.mono ?_; rintro e w_ ⟨rfl, rfl⟩
  go_wp2_with fail
  go_ret
  exact ⟨rfl, rfl⟩
set_option maxHeartbeats 8000000 in
set_option maxRecDepth 100000 in
theorem c_steps (g : Nat) (steps fuse : Int) (out : Bool) (many : Int) (gm : Nat) (l : Value) (w : World) (hg : w.heap[g]? = some (.cells (dC steps fuse out true many gm l).toArray 63 (0, 0))) :
    Calls Try.prog 28 #[.pointer (some ⟨g, 0, none⟩)] w fun e w' => e = .returned (.int .i64 steps) ∧ w' = w := by
  have h4 : w.cell? ⟨g, 0, none⟩ = some (.int .i64 steps) := blk_cell hg 0
  have HN := Aside0.mk (c_none g steps fuse out many gm l w hg)
  clear hg
  go_enter Try.func28, Try.ntmps28
  go_wp2_with fail
  refine HN.out.mono ?_; rintro e w_ ⟨rfl, rfl⟩
  go_wp2_with fail
  go_ret
  exact ⟨rfl, rfl⟩
set_option maxHeartbeats 8000000 in
set_option maxRecDepth 100000 in
theorem c_loose (g : Nat) (steps fuse : Int) (out : Bool) (many : Int) (gm : Nat) (A : Option Addr) (n c : Nat) (w : World) (hg : w.heap[g]? = some (.cells (dC steps fuse out true many gm (.slice A n c)).toArray 63 (0, 0))) :
    Calls Try.prog 22 #[.pointer (some ⟨g, 0, none⟩)] w fun e w' => e = .returned (.int .i64 (n : Int)) ∧ w' = w := by
  have h4 : w.cell? ⟨g, 6, none⟩ = some (.slice A n c) := blk_cell hg 6
  have HN := Aside0.mk (c_none g steps fuse out many gm (.slice A n c) w hg)
  clear hg
  go_enter Try.func22, Try.ntmps22
  go_wp2_with fail
  refine HN.out.mono ?_; rintro e w_ ⟨rfl, rfl⟩
  go_wp2_with fail
  go_ret
  exact ⟨rfl, rfl⟩
set_option maxHeartbeats 8000000 in
set_option maxRecDepth 100000 in
theorem c_up (g : Nat) (steps fuse : Int) (out : Bool) (many : Int) (gm : Nat) (l : Value) (w : World) (hg : w.heap[g]? = some (.cells (dC steps fuse out true many gm l).toArray 63 (0, 0))) :
    Calls Try.prog 16 #[.pointer (some ⟨g, 0, none⟩)] w fun e w' => e = .returned (.bool (!out)) ∧ w' = w := by
  have h4 : w.cell? ⟨g, 2, none⟩ = some (.bool out) := blk_cell hg 2
  have HN := Aside0.mk (c_none g steps fuse out many gm l w hg)
  clear hg
  go_enter Try.func16, Try.ntmps16
  go_wp2_with fail
  refine HN.out.mono ?_; rintro e w_ ⟨rfl, rfl⟩
  go_wp2_with fail
  go_ret
  exact ⟨rfl, rfl⟩
end Go.Proofs.Ytejfocliopbocaa.D
