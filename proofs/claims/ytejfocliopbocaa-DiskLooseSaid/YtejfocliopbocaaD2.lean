import Derived.Test.YtejfocliopbocaaD1
import Derived.Test.YtejfocliopbocaaXD1
import Derived.Test.YtejfocliopbocaaXe
namespace Go.Proofs.Ytejfocliopbocaa.D
open Go.RowKit Go.Proofs.Ytejfocliopbocaa.XD Go.Proofs.YtejfocliopbocaaW.PrintWords Go.Proofs.YtejfocliopbocaaW.PrintLast Go.Proofs.YtejfocliopbocaaW.PrintMore Go.Proofs.YtejfocliopbocaaXe Go.Proofs.YtejfocliopbocaaXs
set_option linter.unusedVariables false
set_option linter.unusedSimpArgs false
/-- a disk's own cells -/
def dC (steps fuse : Int) (out made : Bool) (many : Int) (gm : Nat) (l : Value) : List Value := [.int .i64 steps, .int .i64 fuse, .bool out, .bool made, .int .i64 many, .map (some gm), l]
set_option maxHeartbeats 8000000 in
set_option maxRecDepth 100000 in
theorem c_none (g : Nat) (steps fuse : Int) (out : Bool) (many : Int) (gm : Nat) (l : Value) (w : World) (hg : w.heap[g]? = some (.cells (dC steps fuse out true many gm l).toArray 63 (0, 0))) :
    Calls Try.prog 32 #[.pointer (some ⟨g, 0, none⟩)] w fun e w' => e = .returned (.bool false) ∧ w' = w := by
  have h3 : w.cell? ⟨g, 3, none⟩ = some (.bool true) := blk_cell hg 3
  go_enter Try.func32, Try.ntmps32
  go_wp2
  go_ret
  exact ⟨rfl, rfl⟩
set_option maxHeartbeats 8000000 in
set_option maxRecDepth 100000 in
theorem c_none0 (w : World) : Calls Try.prog 32 #[.pointer none] w fun e w' => e = .returned (.bool true) ∧ w' = w := by
  go_enter Try.func32, Try.ntmps32
  go_wp2
  go_ret
  exact ⟨rfl, rfl⟩
def readyD (out : Bool) (many n : Int) : Int := if out then 10 else if n < 0 ∨ many ≤ n then 5 else 0
set_option maxHeartbeats 8000000 in
set_option maxRecDepth 100000 in
theorem c_ready (g : Nat) (steps fuse : Int) (out : Bool) (many : Int) (gm : Nat) (l : Value) (n : Int) (w : World) (hg : w.heap[g]? = some (.cells (dC steps fuse out true many gm l).toArray 63 (0, 0))) :
    Calls Try.prog 29 #[.pointer (some ⟨g, 0, none⟩), .int .i64 n] w fun e w' => e = .returned (.int .i64 (readyD out many n)) ∧ w' = w := by
  have h2 : w.cell? ⟨g, 2, none⟩ = some (.bool out) := blk_cell hg 2
  have h4 : w.cell? ⟨g, 4, none⟩ = some (.int .i64 many) := blk_cell hg 4
  have HN := Aside0.mk (c_none g steps fuse out many gm l w hg)
  clear hg
  unfold readyD
  cases out with
  | true =>
    go_enter Try.func29, Try.ntmps29
    go_wp2_with fail
    refine HN.out.mono ?_; rintro e w_ ⟨rfl, rfl⟩
    go_wp2_with fail
    go_ret
    exact ⟨rfl, rfl⟩
  | false =>
    by_cases c1 : n < 0
    · have d1 : decide (n < 0) = true := decide_eq_true c1
      rw [if_pos (show n < 0 ∨ many ≤ n from .inl c1)]
      go_enter Try.func29, Try.ntmps29
      go_wp2_with fail
      refine HN.out.mono ?_; rintro e w_ ⟨rfl, rfl⟩
      go_wp2_with fail
      go_ret
      exact ⟨by simp, rfl⟩
    · have d1 : decide (n < 0) = false := decide_eq_false c1
      by_cases c2 : many ≤ n
      · have d2 : decide (many ≤ n) = true := decide_eq_true c2
        rw [if_pos (show n < 0 ∨ many ≤ n from .inr c2)]
        go_enter Try.func29, Try.ntmps29
        go_wp2_with fail
        refine HN.out.mono ?_; rintro e w_ ⟨rfl, rfl⟩
        go_wp2_with fail
        go_ret
        exact ⟨by simp, rfl⟩
      · have d2 : decide (many ≤ n) = false := decide_eq_false c2
        rw [if_neg (show ¬ (n < 0 ∨ many ≤ n) by omega)]
        go_enter Try.func29, Try.ntmps29
        go_wp2_with fail
        refine HN.out.mono ?_; rintro e w_ ⟨rfl, rfl⟩
        go_wp2_with fail
        go_ret
        exact ⟨by simp, rfl⟩
end Go.Proofs.Ytejfocliopbocaa.D
