import Derived.Test.YtejfocliopbocaaD6
import Derived.Test.YtejfocliopbocaaXt
namespace Go.Proofs.Ytejfocliopbocaa.D
open Go.RowKit Go.Proofs.Ytejfocliopbocaa.XD Go.Proofs.YtejfocliopbocaaW.PrintWords Go.Proofs.YtejfocliopbocaaW.PrintLast Go.Proofs.YtejfocliopbocaaW.PrintMore Go.Proofs.YtejfocliopbocaaXe Go.Proofs.YtejfocliopbocaaXs
set_option linter.unusedVariables false
set_option linter.unusedSimpArgs false
/-- the fuse behind a step -/
def burn (fuse : Int) : Int := if 0 < fuse then wrap64 (fuse - 1) else fuse
set_option maxHeartbeats 8000000 in
set_option maxRecDepth 100000 in
theorem c_step1 {Q : World → Prop} {w0 w : World} {Rs : List Res} (HP : Hp w0 w Rs) (i g : Nat) (steps fuse : Int) (made : Bool) (many : Int) (gm : Nat) (l : Value) (F : FuncId) (cap : Array Value) (hi : Rs[i]? = some (.blk g (.cells (dC steps fuse false made many gm l).toArray 63 (0, 0)))) (h : fuse ≠ 0) (hen : ∀ w, (callFunc F cap).run Try.prog w = .ok (.enter F cap) w)
    (hF : ∀ w1, Hp w0 w1 (Rs.set i (.blk g (.cells (dC (wrap64 (steps + 1)) (burn fuse) false made many gm l).toArray 63 (0, 0)))) → Calls Try.prog F cap w1 fun e w' => e = .returned (.tuple #[]) ∧ Q w') :
    Calls Try.prog 30 #[.pointer (some ⟨g, 0, none⟩), .func (.func F) #[] cap] w fun e w' => e = .returned (.int .i64 0) ∧ Q w' := by
  have hc2 : w.cell? ⟨g, 2, none⟩ = some (.bool false) := blk_cell (HP.blk i hi) 2
  have hc1 : w.cell? ⟨g, 1, none⟩ = some (.int .i64 fuse) := blk_cell (HP.blk i hi) 1
  have hc0 : w.cell? ⟨g, 0, none⟩ = some (.int .i64 steps) := blk_cell (HP.blk i hi) 0
  have hf2 := blk_frozen (HP.blk i hi) 0
  have hf1 := blk_frozen (HP.blk i hi) 1
  have d1 : (fuse == 0) = false := beq_eq_false_iff_ne.2 h
  have hl : i < Rs.length := (List.getElem?_eq_some_iff.1 hi).1
  unfold burn at hF
  by_cases hp : 0 < fuse
  · have d2 : decide (0 < fuse) = true := decide_eq_true hp
    rw [if_pos hp] at hF
    have h1 := (HP.setCell i hi 1 (.int .i64 (wrap64 (fuse - 1)))).setCell i (set_get _ hl) 0 (.int .i64 (wrap64 (steps + 1)))
    rw [List.set_set] at h1
    have HF := Aside0.mk (hF _ h1)
    clear HP hi h hF hp hl h1
    go_enter Try.func30, Try.ntmps30
    go_wp2_with fail
    refine HF.out.mono ?_; rintro e w_ ⟨rfl, HQ⟩
    go_wp2_with fail
    go_ret
    exact ⟨rfl, HQ⟩
  · have d2 : decide (0 < fuse) = false := decide_eq_false hp
    rw [if_neg hp] at hF
    have HF := Aside0.mk (hF _ (HP.setCell i hi 0 (.int .i64 (wrap64 (steps + 1)))))
    clear HP hi h hF hp hl
    go_enter Try.func30, Try.ntmps30
    go_wp2_with fail
    refine HF.out.mono ?_; rintro e w_ ⟨rfl, HQ⟩
    go_wp2_with fail
    go_ret
    exact ⟨rfl, HQ⟩
end Go.Proofs.Ytejfocliopbocaa.D
