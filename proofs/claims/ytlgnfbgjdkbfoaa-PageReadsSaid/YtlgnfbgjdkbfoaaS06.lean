import Derived.Test.YtlgnfbgjdkbfoaaProg
import Derived.Test.YtlgnfbgjdkbfoaaS01
import Derived.WalkKit
import Derived.KernelRfl
import Derived.WalkLawsBesides
import Derived.Deep.CutBlock
import Derived.Lib.ConvBytes
import Derived.Deep.LoopGhost
import Derived.Defers
import Derived.Recover
import Derived.Lib.AppendStr
namespace Go.Proofs.Ytlgnfbgjdkbfoaa.Wd
open Go.RowKit Go.Proofs.YtlgnfbgjdkbfoaaW.PrintWords Go.Proofs.YtlgnfbgjdkbfoaaW.PrintLast Go.Proofs.YtlgnfbgjdkbfoaaW.PrintMore Go.Proofs.YtlgnfbgjdkbfoaaXe Go.Proofs.YtlgnfbgjdkbfoaaXs
set_option linter.unusedVariables false
set_option linter.unusedSimpArgs false
attribute [local go_sem ↓] Go.wp_at_zero Go.wp_at_succ
/-- a reader's cells -/
def rC (v : Value) (err fat at_ : Int) : List Value := [.bool true, v, .int .i64 err, .int .i64 fat, .int .i64 at_]
abbrev goneV (e f : Int) : Value := .iface 124 (.agg #[.int .i64 e, .int .i64 f])
abbrev gonE (e f : Int) : Ending := .panicked [{ v := goneV e f, recovered := false }]
theorem cut8 (A : Option Addr) (c : Nat) (b : List Int) (lo hi : Nat) (h : lo ≤ hi) (h2 : hi ≤ b.length) (hc : b.length ≤ c) : ∃ A', (∀ w : World, (Instr.slice 22 (.slice A b.length c) (some (.int .i64 (lo : Int))) (some (.int .i64 (hi : Int))) none).run Try.prog w = .ok (.slice A' (hi - lo) (c - lo)) w) ∧ (∀ w : World, Kd.C (Kd.int .u8) w A b.length b → Kd.C (Kd.int .u8) w A' (hi - lo) ((b.take hi).drop lo)) := by
  have hi5 : (Try.prog.info? 5).map (fun i => (i.zero, i.size, i.bytes)) = some (some (.int .u8 0), 1, 1) := by kernel_rfl
  obtain ⟨i, hi1, _, hs, _⟩ := info_parts hi5
  have hm : ((b.take hi).drop lo).length = hi - lo := by rw [List.length_drop, List.length_take]; omega
  refine ⟨if c = lo then A else A.map (·.add (lo * 1)), fun w => ?_, fun w hC => ?_⟩
  · rw [cut_mid 22 5 .i64 .i64 Try.underlying22 hi1 1 hs A b.length c lo hi (by omega) (by omega) (by omega) hc w]
    simp only [Int.toNat_natCast]
  · have h9 := Kd.C_mid (k := Kd.int .u8) hC h h2 hc
    rw [hm] at h9
    exact h9
set_option maxHeartbeats 8000000 in
set_option maxRecDepth 100000 in
theorem c_gone (e f : Int) (b : Nat) (w : World) (hg : w.heap[b]? = some (.cells #[.int .i64 f] 3 (0, 0))) :
    Calls Try.prog 85 #[.int .i64 e, .pointer (some ⟨b, 0, none⟩)] w fun e' w' => e' = gonE e f ∧ w' = w := by
  have h0 : w.cell? ⟨b, 0, none⟩ = some (.int .i64 f) := blk_cell hg 0
  clear hg
  go_enter Try.func85, Try.ntmps85
  go_wp2_with fail
  exact ⟨rfl, rfl, rfl⟩
set_option maxHeartbeats 8000000 in
set_option maxRecDepth 100000 in
theorem c_someE {w0 w : World} {Rs : List Res} (HP : Hp w0 w Rs) (i g : Nat) (A : Option Addr) (c : Nat) (b : List Int) (err fat : Int) (a n : Nat) (hi : Rs[i]? = some (.blk g (.cells (rC (.slice A b.length c) err fat (a : Int)).toArray 93 (0, 0)))) (hb : b.length ≤ 140737488355328) (ha : a ≤ b.length) (hn : b.length < a + n) (hn2 : n ≤ 140737488355328) :
    Calls Try.prog 70 #[.pointer (some ⟨g, 0, none⟩), .int .i64 (n : Int)] w fun e' w' => e' = gonE 4 (b.length : Int) ∧ Hp w0 w' Rs := by
  have HPn := Aside0.mk HP
  clear HP
  have HP := HPn
  clear HPn
  have HI := Aside0.mk hi
  have hv1 := (fun (w' : World) (hg : w'.heap[g]? = some (.cells (rC (.slice A b.length c) err fat (a : Int)).toArray 93 (0, 0))) => (⟨blk_cell hg 1, blk_cell hg 4⟩ : w'.cell? ⟨g, 1, none⟩ = some (.slice A b.length c) ∧ w'.cell? ⟨g, 4, none⟩ = some (.int .i64 (a : Int))))
  have HV := Aside0.mk hv1
  clear hv1 hi
  obtain ⟨m, hm⟩ : ∃ z, b.length = z := ⟨_, rfl⟩
  rw [hm] at HV hb ha hn
  rw [hm]
  have e1 : IntKind.i64.wrap ((m : Int) - (a : Int)) = (m : Int) - (a : Int) := IntWalk.i64_in _ (by omega)
  have d1 : decide ((m : Int) - (a : Int) < (n : Int)) = true := decide_eq_true (by omega)
  have h1 := fun w' (h : Hp w0 w' Rs) => HV.out w' (by have h9 := h.blk i HI.out; rw [hm] at h9; exact h9)
  have HH := Aside0.mk h1
  clear h1 hb ha hn hn2
  go_enter Try.func70, Try.ntmps70
  go_wp2_with fail
  refine held_named (S := (fun w' => w'.cell? ⟨g, 1, none⟩ = some (.slice A m c) ∧ w'.cell? ⟨g, 4, none⟩ = some (.int .i64 (a : Int)))) (by kernel_rfl) (fun wd1 hwd1 => ?_)
  have HPn := Aside0.mk (HP.out.drewN 1)
  rw [← World.drew_is_drewN, hwd1] at HPn
  clear HP hwd1
  have HP := HPn
  clear HPn
  refine ⟨by (try dsimp only); exact HH.out _ HP.out, fun hHeld => ?_⟩
  refine wpAnyH_take (i := 0) (oi := ({ dst := (some 5), op := (Op.move (Operand.tmp 1)), type := 3, pos := "word.go:101", after := #[], guard := none } : Oper)) (v := ?_) rfl (by kernel_rfl) (by kernel_rfl) (by kernel_rfl) (fun _ _ _ h => h) (Or.inl ⟨by rfl, ?_⟩) hHeld ?_
  rotate_left
  · intro w_ hSw; (try dsimp only at hSw); go_simp; try (with_reducible rfl)
  try simp only [Act.put, List.setIfInBounds_toArray, List.set_cons_zero, List.set_cons_succ]
  refine wpAnyH_take (i := 1) (oi := ({ dst := (some 6), op := (Op.move (Operand.tmp 0)), type := 57, pos := "word.go:101", after := #[], guard := none } : Oper)) (v := ?_) rfl (by kernel_rfl) (by kernel_rfl) (by kernel_rfl) (fun _ _ _ h => h) (Or.inl ⟨by rfl, ?_⟩) hHeld ?_
  rotate_left
  · intro w_ hSw; (try dsimp only at hSw); go_simp; try (with_reducible rfl)
  try simp only [Act.put, List.setIfInBounds_toArray, List.set_cons_zero, List.set_cons_succ]
  refine wpAnyH_take (i := 2) (oi := ({ dst := (some 7), op := (Op.nilCheck (Operand.tmp 6)), type := 0, pos := "word.go:101", after := #[{ on := 1, ground := Ground.data }], guard := none } : Oper)) (v := ?_) rfl (by kernel_rfl) (by kernel_rfl) (by kernel_rfl) (fun _ _ _ h => h) (Or.inl ⟨by rfl, ?_⟩) hHeld ?_
  rotate_left
  · intro w_ hSw; (try dsimp only at hSw); go_simp; try (with_reducible rfl)
  try simp only [Act.put, List.setIfInBounds_toArray, List.set_cons_zero, List.set_cons_succ]
  refine wpAnyH_take (i := 3) (oi := ({ dst := (some 8), op := (Op.fieldAddr 93 (Operand.tmp 7) 0), type := 0, pos := "word.go:101", after := #[{ on := 2, ground := Ground.data }], guard := none } : Oper)) (v := ?_) rfl (by kernel_rfl) (by kernel_rfl) (by kernel_rfl) (fun _ _ _ h => h) (Or.inl ⟨by rfl, ?_⟩) hHeld ?_
  rotate_left
  · intro w_ hSw; (try dsimp only at hSw); go_simp; try (with_reducible rfl)
  try simp only [Act.put, List.setIfInBounds_toArray, List.set_cons_zero, List.set_cons_succ]
  refine wpAnyH_take (i := 4) (oi := ({ dst := (some 9), op := (Op.fieldAddr 91 (Operand.tmp 8) 1), type := 0, pos := "word.go:101", after := #[{ on := 3, ground := Ground.data }], guard := none } : Oper)) (v := ?_) rfl (by kernel_rfl) (by kernel_rfl) (by kernel_rfl) (fun _ _ _ h => h) (Or.inl ⟨by rfl, ?_⟩) hHeld ?_
  rotate_left
  · intro w_ hSw; (try dsimp only at hSw); go_simp; try (with_reducible rfl)
  try simp only [Act.put, List.setIfInBounds_toArray, List.set_cons_zero, List.set_cons_succ]
  refine wpAnyH_take (i := 5) (oi := ({ dst := (some 10), op := (Op.load 22 (Operand.tmp 9)), type := 22, pos := "word.go:101", after := #[{ on := 4, ground := Ground.data }], guard := none } : Oper)) (v := ?_) rfl (by kernel_rfl) (by kernel_rfl) (by kernel_rfl) (fun _ _ _ h => h) (Or.inl ⟨by rfl, ?_⟩) hHeld ?_
  rotate_left
  · intro w_ hSw; (try dsimp only at hSw); go_simp; try (with_reducible rfl)
  try simp only [Act.put, List.setIfInBounds_toArray, List.set_cons_zero, List.set_cons_succ]
  refine wpAnyH_take (i := 6) (oi := ({ dst := (some 11), op := (Op.call { callee := (Callee.builtin Builtin.len), args := #[(Operand.tmp 10)], argTypes := #[22] }), type := 3, pos := "word.go:101", after := #[{ on := 5, ground := Ground.data }], guard := none } : Oper)) (v := ?_) rfl (by kernel_rfl) (by kernel_rfl) (by kernel_rfl) (fun _ _ _ h => h) (Or.inl ⟨by rfl, ?_⟩) hHeld ?_
  rotate_left
  · intro w_ hSw; (try dsimp only at hSw); go_simp; try (with_reducible rfl)
  try simp only [Act.put, List.setIfInBounds_toArray, List.set_cons_zero, List.set_cons_succ]
  refine wpAnyH_take (i := 7) (oi := ({ dst := (some 12), op := (Op.move (Operand.tmp 0)), type := 57, pos := "word.go:101", after := #[], guard := none } : Oper)) (v := ?_) rfl (by kernel_rfl) (by kernel_rfl) (by kernel_rfl) (fun _ _ _ h => h) (Or.inl ⟨by rfl, ?_⟩) hHeld ?_
  rotate_left
  · intro w_ hSw; (try dsimp only at hSw); go_simp; try (with_reducible rfl)
  try simp only [Act.put, List.setIfInBounds_toArray, List.set_cons_zero, List.set_cons_succ]
  refine wpAnyH_take (i := 8) (oi := ({ dst := (some 13), op := (Op.nilCheck (Operand.tmp 12)), type := 0, pos := "word.go:101", after := #[{ on := 7, ground := Ground.data }], guard := none } : Oper)) (v := ?_) rfl (by kernel_rfl) (by kernel_rfl) (by kernel_rfl) (fun _ _ _ h => h) (Or.inl ⟨by rfl, ?_⟩) hHeld ?_
  rotate_left
  · intro w_ hSw; (try dsimp only at hSw); go_simp; try (with_reducible rfl)
  try simp only [Act.put, List.setIfInBounds_toArray, List.set_cons_zero, List.set_cons_succ]
  refine wpAnyH_take (i := 9) (oi := ({ dst := (some 14), op := (Op.fieldAddr 93 (Operand.tmp 13) 1), type := 0, pos := "word.go:101", after := #[{ on := 8, ground := Ground.data }], guard := none } : Oper)) (v := ?_) rfl (by kernel_rfl) (by kernel_rfl) (by kernel_rfl) (fun _ _ _ h => h) (Or.inl ⟨by rfl, ?_⟩) hHeld ?_
  rotate_left
  · intro w_ hSw; (try dsimp only at hSw); go_simp; try (with_reducible rfl)
  try simp only [Act.put, List.setIfInBounds_toArray, List.set_cons_zero, List.set_cons_succ]
  refine wpAnyH_take (i := 10) (oi := ({ dst := (some 15), op := (Op.load 3 (Operand.tmp 14)), type := 3, pos := "word.go:101", after := #[{ on := 9, ground := Ground.data }], guard := none } : Oper)) (v := ?_) rfl (by kernel_rfl) (by kernel_rfl) (by kernel_rfl) (fun _ _ _ h => h) (Or.inl ⟨by rfl, ?_⟩) hHeld ?_
  rotate_left
  · intro w_ hSw; (try dsimp only at hSw); go_simp; try (with_reducible rfl)
  try simp only [Act.put, List.setIfInBounds_toArray, List.set_cons_zero, List.set_cons_succ]
  refine wpAnyH_take (i := 11) (oi := ({ dst := (some 16), op := (Op.binOp BinOp.sub 3 (Operand.tmp 11) (Operand.tmp 15) 3), type := 3, pos := "word.go:101", after := #[{ on := 6, ground := Ground.data }, { on := 10, ground := Ground.data }], guard := none } : Oper)) (v := ?_) rfl (by kernel_rfl) (by kernel_rfl) (by kernel_rfl) (fun _ _ _ h => h) (Or.inl ⟨by rfl, ?_⟩) hHeld ?_
  rotate_left
  · intro w_ hSw; (try dsimp only at hSw); go_simp; try (with_reducible rfl)
  try simp only [Act.put, List.setIfInBounds_toArray, List.set_cons_zero, List.set_cons_succ]
  refine wpAnyH_take (i := 12) (oi := ({ dst := (some 17), op := (Op.binOp BinOp.gtr 3 (Operand.tmp 5) (Operand.tmp 16) 3), type := 4, pos := "word.go:101", after := #[{ on := 0, ground := Ground.data }, { on := 11, ground := Ground.data }], guard := none } : Oper)) (v := ?_) rfl (by kernel_rfl) (by kernel_rfl) (by kernel_rfl) (fun _ _ _ h => h) (Or.inl ⟨by rfl, ?_⟩) hHeld ?_
  rotate_left
  · intro w_ hSw; (try dsimp only at hSw); go_simp; try (with_reducible rfl)
  try simp only [Act.put, List.setIfInBounds_toArray, List.set_cons_zero, List.set_cons_succ]
  refine wpAnyH_done (by kernel_rfl) ?_ _
  go_wp2_with fail
  have h1 := (HH.out _ HP.out).1
  go_wp2_with fail
  exact ⟨rfl, rfl, HP.out⟩
set_option maxHeartbeats 8000000 in
set_option maxRecDepth 100000 in
theorem c_some {w0 w : World} {Rs : List Res} (HP : Hp w0 w Rs) (i g : Nat) (A : Option Addr) (c : Nat) (b : List Int) (err fat : Int) (a n : Nat) (hi : Rs[i]? = some (.blk g (.cells (rC (.slice A b.length c) err fat (a : Int)).toArray 93 (0, 0)))) (hb : b.length ≤ 140737488355328) (hc : b.length ≤ c) (hn : a + n ≤ b.length) :
    Calls Try.prog 70 #[.pointer (some ⟨g, 0, none⟩), .int .i64 (n : Int)] w fun e' w' => ∃ A', e' = .returned (.slice A' n (c - a)) ∧ (∀ w : World, Kd.C (Kd.int .u8) w A b.length b → Kd.C (Kd.int .u8) w A' n ((b.take (a + n)).drop a)) ∧ Hp w0 w' (Rs.set i (.blk g (.cells (rC (.slice A b.length c) err fat ((a + n : Nat) : Int)).toArray 93 (0, 0)))) := by
  have HPn := Aside0.mk HP
  clear HP
  have HP := HPn
  clear HPn
  have HI := Aside0.mk hi
  have hv1 := (fun (w' : World) (hg : w'.heap[g]? = some (.cells (rC (.slice A b.length c) err fat (a : Int)).toArray 93 (0, 0))) => (⟨blk_cell hg 1, blk_cell hg 4⟩ : w'.cell? ⟨g, 1, none⟩ = some (.slice A b.length c) ∧ w'.cell? ⟨g, 4, none⟩ = some (.int .i64 (a : Int))))
  have HV := Aside0.mk hv1
  clear hv1 hi
  obtain ⟨A', hrun, hC'⟩ := cut8 A c b a (a + n) (by omega) hn hc
  rw [show a + n - a = n by omega] at hrun hC'
  have hil : i < Rs.length := (List.getElem?_eq_some_iff.1 HI.out).1
  have HP2 := Aside0.mk (fun w' (h : Hp w0 w' Rs) (q : Int) (hq : q = ((a + n : Nat) : Int)) => show Hp w0 (w'.setCell ⟨g, 4, none⟩ (.int .i64 q)) (Rs.set i (.blk g (.cells (rC (.slice A b.length c) err fat ((a + n : Nat) : Int)).toArray 93 (0, 0)))) from by subst hq; exact h.setCell i HI.out 4 (.int .i64 ((a + n : Nat) : Int)))
  obtain ⟨m, hm⟩ : ∃ z, b.length = z := ⟨_, rfl⟩
  rw [hm] at HV hb hn hc hrun HP2 hC'
  rw [hm]
  obtain ⟨q, hq⟩ : ∃ z, (a : Int) + (n : Int) = z := ⟨_, rfl⟩
  have e1 : IntKind.i64.wrap ((m : Int) - (a : Int)) = (m : Int) - (a : Int) := IntWalk.i64_in _ (by omega)
  have e2 : IntKind.i64.wrap ((a : Int) + (n : Int)) = q := by rw [hq]; exact IntWalk.i64_in _ (by omega)
  have e3 : IntKind.i64.wrap (q - (n : Int)) = (a : Int) := by rw [show q - (n : Int) = (a : Int) by omega]; exact IntWalk.i64_in _ (by omega)
  have d1 : decide ((m : Int) - (a : Int) < (n : Int)) = false := decide_eq_false (by omega)
  rw [show ((a + n : Nat) : Int) = q by omega] at hrun
  have HQ := Aside0.mk (show q = ((a + n : Nat) : Int) by omega)
  have HC' := Aside0.mk hC'
  have h1 := fun w' (h : Hp w0 w' Rs) => HV.out w' (by have h9 := h.blk i HI.out; rw [hm] at h9; exact h9)
  have HH := Aside0.mk h1
  have HF := Aside0.mk (fun w' (h : Hp w0 w' Rs) => blk_frozen (h.blk i HI.out) 4)
  have HS := Aside0.mk (fun w' (h : Hp w0 w' (Rs.set i (.blk g (.cells (rC (.slice A m c) err fat ((a + n : Nat) : Int)).toArray 93 (0, 0))))) => (⟨blk_cell (h.blk i (set_get _ hil)) 1, by rw [HQ.out]; exact blk_cell (h.blk i (set_get _ hil)) 4⟩ : w'.cell? ⟨g, 1, none⟩ = some (.slice A m c) ∧ w'.cell? ⟨g, 4, none⟩ = some (.int .i64 q)))
  have HMM := Aside0.mk hm
  clear h1 hb hn hc hC' hil hq hm
  go_enter Try.func70, Try.ntmps70
  go_wp2_with fail
  refine held_named (S := (fun w' => w'.cell? ⟨g, 1, none⟩ = some (.slice A m c) ∧ w'.cell? ⟨g, 4, none⟩ = some (.int .i64 (a : Int)))) (by kernel_rfl) (fun wd1 hwd1 => ?_)
  have HPn := Aside0.mk (HP.out.drewN 1)
  rw [← World.drew_is_drewN, hwd1] at HPn
  clear HP hwd1
  have HP := HPn
  clear HPn
  refine ⟨by (try dsimp only); exact HH.out _ HP.out, fun hHeld => ?_⟩
  refine wpAnyH_take (i := 0) (oi := ({ dst := (some 5), op := (Op.move (Operand.tmp 1)), type := 3, pos := "word.go:101", after := #[], guard := none } : Oper)) (v := ?_) rfl (by kernel_rfl) (by kernel_rfl) (by kernel_rfl) (fun _ _ _ h => h) (Or.inl ⟨by rfl, ?_⟩) hHeld ?_
  rotate_left
  · intro w_ hSw; (try dsimp only at hSw); go_simp; try (with_reducible rfl)
  try simp only [Act.put, List.setIfInBounds_toArray, List.set_cons_zero, List.set_cons_succ]
  refine wpAnyH_take (i := 1) (oi := ({ dst := (some 6), op := (Op.move (Operand.tmp 0)), type := 57, pos := "word.go:101", after := #[], guard := none } : Oper)) (v := ?_) rfl (by kernel_rfl) (by kernel_rfl) (by kernel_rfl) (fun _ _ _ h => h) (Or.inl ⟨by rfl, ?_⟩) hHeld ?_
  rotate_left
  · intro w_ hSw; (try dsimp only at hSw); go_simp; try (with_reducible rfl)
  try simp only [Act.put, List.setIfInBounds_toArray, List.set_cons_zero, List.set_cons_succ]
  refine wpAnyH_take (i := 2) (oi := ({ dst := (some 7), op := (Op.nilCheck (Operand.tmp 6)), type := 0, pos := "word.go:101", after := #[{ on := 1, ground := Ground.data }], guard := none } : Oper)) (v := ?_) rfl (by kernel_rfl) (by kernel_rfl) (by kernel_rfl) (fun _ _ _ h => h) (Or.inl ⟨by rfl, ?_⟩) hHeld ?_
  rotate_left
  · intro w_ hSw; (try dsimp only at hSw); go_simp; try (with_reducible rfl)
  try simp only [Act.put, List.setIfInBounds_toArray, List.set_cons_zero, List.set_cons_succ]
  refine wpAnyH_take (i := 3) (oi := ({ dst := (some 8), op := (Op.fieldAddr 93 (Operand.tmp 7) 0), type := 0, pos := "word.go:101", after := #[{ on := 2, ground := Ground.data }], guard := none } : Oper)) (v := ?_) rfl (by kernel_rfl) (by kernel_rfl) (by kernel_rfl) (fun _ _ _ h => h) (Or.inl ⟨by rfl, ?_⟩) hHeld ?_
  rotate_left
  · intro w_ hSw; (try dsimp only at hSw); go_simp; try (with_reducible rfl)
  try simp only [Act.put, List.setIfInBounds_toArray, List.set_cons_zero, List.set_cons_succ]
  refine wpAnyH_take (i := 4) (oi := ({ dst := (some 9), op := (Op.fieldAddr 91 (Operand.tmp 8) 1), type := 0, pos := "word.go:101", after := #[{ on := 3, ground := Ground.data }], guard := none } : Oper)) (v := ?_) rfl (by kernel_rfl) (by kernel_rfl) (by kernel_rfl) (fun _ _ _ h => h) (Or.inl ⟨by rfl, ?_⟩) hHeld ?_
  rotate_left
  · intro w_ hSw; (try dsimp only at hSw); go_simp; try (with_reducible rfl)
  try simp only [Act.put, List.setIfInBounds_toArray, List.set_cons_zero, List.set_cons_succ]
  refine wpAnyH_take (i := 5) (oi := ({ dst := (some 10), op := (Op.load 22 (Operand.tmp 9)), type := 22, pos := "word.go:101", after := #[{ on := 4, ground := Ground.data }], guard := none } : Oper)) (v := ?_) rfl (by kernel_rfl) (by kernel_rfl) (by kernel_rfl) (fun _ _ _ h => h) (Or.inl ⟨by rfl, ?_⟩) hHeld ?_
  rotate_left
  · intro w_ hSw; (try dsimp only at hSw); go_simp; try (with_reducible rfl)
  try simp only [Act.put, List.setIfInBounds_toArray, List.set_cons_zero, List.set_cons_succ]
  refine wpAnyH_take (i := 6) (oi := ({ dst := (some 11), op := (Op.call { callee := (Callee.builtin Builtin.len), args := #[(Operand.tmp 10)], argTypes := #[22] }), type := 3, pos := "word.go:101", after := #[{ on := 5, ground := Ground.data }], guard := none } : Oper)) (v := ?_) rfl (by kernel_rfl) (by kernel_rfl) (by kernel_rfl) (fun _ _ _ h => h) (Or.inl ⟨by rfl, ?_⟩) hHeld ?_
  rotate_left
  · intro w_ hSw; (try dsimp only at hSw); go_simp; try (with_reducible rfl)
  try simp only [Act.put, List.setIfInBounds_toArray, List.set_cons_zero, List.set_cons_succ]
  refine wpAnyH_take (i := 7) (oi := ({ dst := (some 12), op := (Op.move (Operand.tmp 0)), type := 57, pos := "word.go:101", after := #[], guard := none } : Oper)) (v := ?_) rfl (by kernel_rfl) (by kernel_rfl) (by kernel_rfl) (fun _ _ _ h => h) (Or.inl ⟨by rfl, ?_⟩) hHeld ?_
  rotate_left
  · intro w_ hSw; (try dsimp only at hSw); go_simp; try (with_reducible rfl)
  try simp only [Act.put, List.setIfInBounds_toArray, List.set_cons_zero, List.set_cons_succ]
  refine wpAnyH_take (i := 8) (oi := ({ dst := (some 13), op := (Op.nilCheck (Operand.tmp 12)), type := 0, pos := "word.go:101", after := #[{ on := 7, ground := Ground.data }], guard := none } : Oper)) (v := ?_) rfl (by kernel_rfl) (by kernel_rfl) (by kernel_rfl) (fun _ _ _ h => h) (Or.inl ⟨by rfl, ?_⟩) hHeld ?_
  rotate_left
  · intro w_ hSw; (try dsimp only at hSw); go_simp; try (with_reducible rfl)
  try simp only [Act.put, List.setIfInBounds_toArray, List.set_cons_zero, List.set_cons_succ]
  refine wpAnyH_take (i := 9) (oi := ({ dst := (some 14), op := (Op.fieldAddr 93 (Operand.tmp 13) 1), type := 0, pos := "word.go:101", after := #[{ on := 8, ground := Ground.data }], guard := none } : Oper)) (v := ?_) rfl (by kernel_rfl) (by kernel_rfl) (by kernel_rfl) (fun _ _ _ h => h) (Or.inl ⟨by rfl, ?_⟩) hHeld ?_
  rotate_left
  · intro w_ hSw; (try dsimp only at hSw); go_simp; try (with_reducible rfl)
  try simp only [Act.put, List.setIfInBounds_toArray, List.set_cons_zero, List.set_cons_succ]
  refine wpAnyH_take (i := 10) (oi := ({ dst := (some 15), op := (Op.load 3 (Operand.tmp 14)), type := 3, pos := "word.go:101", after := #[{ on := 9, ground := Ground.data }], guard := none } : Oper)) (v := ?_) rfl (by kernel_rfl) (by kernel_rfl) (by kernel_rfl) (fun _ _ _ h => h) (Or.inl ⟨by rfl, ?_⟩) hHeld ?_
  rotate_left
  · intro w_ hSw; (try dsimp only at hSw); go_simp; try (with_reducible rfl)
  try simp only [Act.put, List.setIfInBounds_toArray, List.set_cons_zero, List.set_cons_succ]
  refine wpAnyH_take (i := 11) (oi := ({ dst := (some 16), op := (Op.binOp BinOp.sub 3 (Operand.tmp 11) (Operand.tmp 15) 3), type := 3, pos := "word.go:101", after := #[{ on := 6, ground := Ground.data }, { on := 10, ground := Ground.data }], guard := none } : Oper)) (v := ?_) rfl (by kernel_rfl) (by kernel_rfl) (by kernel_rfl) (fun _ _ _ h => h) (Or.inl ⟨by rfl, ?_⟩) hHeld ?_
  rotate_left
  · intro w_ hSw; (try dsimp only at hSw); go_simp; try (with_reducible rfl)
  try simp only [Act.put, List.setIfInBounds_toArray, List.set_cons_zero, List.set_cons_succ]
  refine wpAnyH_take (i := 12) (oi := ({ dst := (some 17), op := (Op.binOp BinOp.gtr 3 (Operand.tmp 5) (Operand.tmp 16) 3), type := 4, pos := "word.go:101", after := #[{ on := 0, ground := Ground.data }, { on := 11, ground := Ground.data }], guard := none } : Oper)) (v := ?_) rfl (by kernel_rfl) (by kernel_rfl) (by kernel_rfl) (fun _ _ _ h => h) (Or.inl ⟨by rfl, ?_⟩) hHeld ?_
  rotate_left
  · intro w_ hSw; (try dsimp only at hSw); go_simp; try (with_reducible rfl)
  try simp only [Act.put, List.setIfInBounds_toArray, List.set_cons_zero, List.set_cons_succ]
  refine wpAnyH_done (by kernel_rfl) ?_ _
  have h4 := (HH.out _ HP.out).2
  have hf4 := HF.out _ HP.out
  have HPn := Aside0.mk (HP2.out _ HP.out q HQ.out)
  go_wp2_with fail
  clear h4 hf4 HP e2
  have HP := HPn
  clear HPn
  refine held_named (S := (fun w' => w'.cell? ⟨g, 1, none⟩ = some (.slice A m c) ∧ w'.cell? ⟨g, 4, none⟩ = some (.int .i64 q))) (by kernel_rfl) (fun wd4 hwd4 => ?_)
  have HPn := Aside0.mk (HP.out.drewN 1)
  rw [← World.drew_is_drewN, hwd4] at HPn
  clear HP hwd4
  have HP := HPn
  clear HPn
  refine ⟨by (try dsimp only); exact HS.out _ HP.out, fun hHeld => ?_⟩
  refine wpAnyH_take (i := 0) (oi := ({ dst := (some 35), op := (Op.move (Operand.tmp 0)), type := 57, pos := "word.go:105", after := #[], guard := none } : Oper)) (v := ?_) rfl (by kernel_rfl) (by kernel_rfl) (by kernel_rfl) (fun _ _ _ h => h) (Or.inl ⟨by rfl, ?_⟩) hHeld ?_
  rotate_left
  · intro w_ hSw; (try dsimp only at hSw); go_simp; try (with_reducible rfl)
  try simp only [Act.put, List.setIfInBounds_toArray, List.set_cons_zero, List.set_cons_succ]
  refine wpAnyH_take (i := 1) (oi := ({ dst := (some 36), op := (Op.nilCheck (Operand.tmp 35)), type := 0, pos := "word.go:105", after := #[{ on := 0, ground := Ground.data }], guard := none } : Oper)) (v := ?_) rfl (by kernel_rfl) (by kernel_rfl) (by kernel_rfl) (fun _ _ _ h => h) (Or.inl ⟨by rfl, ?_⟩) hHeld ?_
  rotate_left
  · intro w_ hSw; (try dsimp only at hSw); go_simp; try (with_reducible rfl)
  try simp only [Act.put, List.setIfInBounds_toArray, List.set_cons_zero, List.set_cons_succ]
  refine wpAnyH_take (i := 2) (oi := ({ dst := (some 37), op := (Op.fieldAddr 93 (Operand.tmp 36) 0), type := 0, pos := "word.go:105", after := #[{ on := 1, ground := Ground.data }], guard := none } : Oper)) (v := ?_) rfl (by kernel_rfl) (by kernel_rfl) (by kernel_rfl) (fun _ _ _ h => h) (Or.inl ⟨by rfl, ?_⟩) hHeld ?_
  rotate_left
  · intro w_ hSw; (try dsimp only at hSw); go_simp; try (with_reducible rfl)
  try simp only [Act.put, List.setIfInBounds_toArray, List.set_cons_zero, List.set_cons_succ]
  refine wpAnyH_take (i := 3) (oi := ({ dst := (some 38), op := (Op.fieldAddr 91 (Operand.tmp 37) 1), type := 0, pos := "word.go:105", after := #[{ on := 2, ground := Ground.data }], guard := none } : Oper)) (v := ?_) rfl (by kernel_rfl) (by kernel_rfl) (by kernel_rfl) (fun _ _ _ h => h) (Or.inl ⟨by rfl, ?_⟩) hHeld ?_
  rotate_left
  · intro w_ hSw; (try dsimp only at hSw); go_simp; try (with_reducible rfl)
  try simp only [Act.put, List.setIfInBounds_toArray, List.set_cons_zero, List.set_cons_succ]
  refine wpAnyH_take (i := 4) (oi := ({ dst := (some 39), op := (Op.load 22 (Operand.tmp 38)), type := 22, pos := "word.go:105", after := #[{ on := 3, ground := Ground.data }], guard := none } : Oper)) (v := ?_) rfl (by kernel_rfl) (by kernel_rfl) (by kernel_rfl) (fun _ _ _ h => h) (Or.inl ⟨by rfl, ?_⟩) hHeld ?_
  rotate_left
  · intro w_ hSw; (try dsimp only at hSw); go_simp; try (with_reducible rfl)
  try simp only [Act.put, List.setIfInBounds_toArray, List.set_cons_zero, List.set_cons_succ]
  refine wpAnyH_take (i := 5) (oi := ({ dst := (some 40), op := (Op.move (Operand.tmp 0)), type := 57, pos := "word.go:105", after := #[], guard := none } : Oper)) (v := ?_) rfl (by kernel_rfl) (by kernel_rfl) (by kernel_rfl) (fun _ _ _ h => h) (Or.inl ⟨by rfl, ?_⟩) hHeld ?_
  rotate_left
  · intro w_ hSw; (try dsimp only at hSw); go_simp; try (with_reducible rfl)
  try simp only [Act.put, List.setIfInBounds_toArray, List.set_cons_zero, List.set_cons_succ]
  refine wpAnyH_take (i := 6) (oi := ({ dst := (some 41), op := (Op.nilCheck (Operand.tmp 40)), type := 0, pos := "word.go:105", after := #[{ on := 5, ground := Ground.data }], guard := none } : Oper)) (v := ?_) rfl (by kernel_rfl) (by kernel_rfl) (by kernel_rfl) (fun _ _ _ h => h) (Or.inl ⟨by rfl, ?_⟩) hHeld ?_
  rotate_left
  · intro w_ hSw; (try dsimp only at hSw); go_simp; try (with_reducible rfl)
  try simp only [Act.put, List.setIfInBounds_toArray, List.set_cons_zero, List.set_cons_succ]
  refine wpAnyH_take (i := 7) (oi := ({ dst := (some 42), op := (Op.fieldAddr 93 (Operand.tmp 41) 1), type := 0, pos := "word.go:105", after := #[{ on := 6, ground := Ground.data }], guard := none } : Oper)) (v := ?_) rfl (by kernel_rfl) (by kernel_rfl) (by kernel_rfl) (fun _ _ _ h => h) (Or.inl ⟨by rfl, ?_⟩) hHeld ?_
  rotate_left
  · intro w_ hSw; (try dsimp only at hSw); go_simp; try (with_reducible rfl)
  try simp only [Act.put, List.setIfInBounds_toArray, List.set_cons_zero, List.set_cons_succ]
  refine wpAnyH_take (i := 8) (oi := ({ dst := (some 43), op := (Op.load 3 (Operand.tmp 42)), type := 3, pos := "word.go:105", after := #[{ on := 7, ground := Ground.data }], guard := none } : Oper)) (v := ?_) rfl (by kernel_rfl) (by kernel_rfl) (by kernel_rfl) (fun _ _ _ h => h) (Or.inl ⟨by rfl, ?_⟩) hHeld ?_
  rotate_left
  · intro w_ hSw; (try dsimp only at hSw); go_simp; try (with_reducible rfl)
  try simp only [Act.put, List.setIfInBounds_toArray, List.set_cons_zero, List.set_cons_succ]
  refine wpAnyH_take (i := 9) (oi := ({ dst := (some 44), op := (Op.move (Operand.tmp 1)), type := 3, pos := "word.go:105", after := #[], guard := none } : Oper)) (v := ?_) rfl (by kernel_rfl) (by kernel_rfl) (by kernel_rfl) (fun _ _ _ h => h) (Or.inl ⟨by rfl, ?_⟩) hHeld ?_
  rotate_left
  · intro w_ hSw; (try dsimp only at hSw); go_simp; try (with_reducible rfl)
  try simp only [Act.put, List.setIfInBounds_toArray, List.set_cons_zero, List.set_cons_succ]
  refine wpAnyH_take (i := 10) (oi := ({ dst := (some 45), op := (Op.binOp BinOp.sub 3 (Operand.tmp 43) (Operand.tmp 44) 3), type := 3, pos := "word.go:105", after := #[{ on := 8, ground := Ground.data }, { on := 9, ground := Ground.data }], guard := none } : Oper)) (v := ?_) rfl (by kernel_rfl) (by kernel_rfl) (by kernel_rfl) (fun _ _ _ h => h) (Or.inl ⟨by rfl, ?_⟩) hHeld ?_
  rotate_left
  · intro w_ hSw; (try dsimp only at hSw); go_simp; try (with_reducible rfl)
  try simp only [Act.put, List.setIfInBounds_toArray, List.set_cons_zero, List.set_cons_succ]
  refine wpAnyH_take (i := 11) (oi := ({ dst := (some 46), op := (Op.move (Operand.tmp 0)), type := 57, pos := "word.go:105", after := #[], guard := none } : Oper)) (v := ?_) rfl (by kernel_rfl) (by kernel_rfl) (by kernel_rfl) (fun _ _ _ h => h) (Or.inl ⟨by rfl, ?_⟩) hHeld ?_
  rotate_left
  · intro w_ hSw; (try dsimp only at hSw); go_simp; try (with_reducible rfl)
  try simp only [Act.put, List.setIfInBounds_toArray, List.set_cons_zero, List.set_cons_succ]
  refine wpAnyH_take (i := 12) (oi := ({ dst := (some 47), op := (Op.nilCheck (Operand.tmp 46)), type := 0, pos := "word.go:105", after := #[{ on := 11, ground := Ground.data }], guard := none } : Oper)) (v := ?_) rfl (by kernel_rfl) (by kernel_rfl) (by kernel_rfl) (fun _ _ _ h => h) (Or.inl ⟨by rfl, ?_⟩) hHeld ?_
  rotate_left
  · intro w_ hSw; (try dsimp only at hSw); go_simp; try (with_reducible rfl)
  try simp only [Act.put, List.setIfInBounds_toArray, List.set_cons_zero, List.set_cons_succ]
  refine wpAnyH_take (i := 13) (oi := ({ dst := (some 48), op := (Op.fieldAddr 93 (Operand.tmp 47) 1), type := 0, pos := "word.go:105", after := #[{ on := 12, ground := Ground.data }], guard := none } : Oper)) (v := ?_) rfl (by kernel_rfl) (by kernel_rfl) (by kernel_rfl) (fun _ _ _ h => h) (Or.inl ⟨by rfl, ?_⟩) hHeld ?_
  rotate_left
  · intro w_ hSw; (try dsimp only at hSw); go_simp; try (with_reducible rfl)
  try simp only [Act.put, List.setIfInBounds_toArray, List.set_cons_zero, List.set_cons_succ]
  refine wpAnyH_take (i := 14) (oi := ({ dst := (some 49), op := (Op.load 3 (Operand.tmp 48)), type := 3, pos := "word.go:105", after := #[{ on := 13, ground := Ground.data }], guard := none } : Oper)) (v := ?_) rfl (by kernel_rfl) (by kernel_rfl) (by kernel_rfl) (fun _ _ _ h => h) (Or.inl ⟨by rfl, ?_⟩) hHeld ?_
  rotate_left
  · intro w_ hSw; (try dsimp only at hSw); go_simp; try (with_reducible rfl)
  try simp only [Act.put, List.setIfInBounds_toArray, List.set_cons_zero, List.set_cons_succ]
  refine wpAnyH_take (i := 15) (oi := ({ dst := (some 50), op := (Op.slice 22 (Operand.tmp 39) (some (Operand.tmp 45)) (some (Operand.tmp 49)) none), type := 22, pos := "word.go:105", after := #[{ on := 4, ground := Ground.data }, { on := 10, ground := Ground.data }, { on := 14, ground := Ground.data }], guard := none } : Oper)) (v := ?_) rfl (by kernel_rfl) (by kernel_rfl) (by kernel_rfl) (fun _ _ _ h => h) (Or.inl ⟨by rfl, ?_⟩) hHeld ?_
  rotate_left
  · intro w_ hSw; (try dsimp only at hSw); go_simp; try (with_reducible rfl)
  try simp only [Act.put, List.setIfInBounds_toArray, List.set_cons_zero, List.set_cons_succ]
  refine wpAnyH_take (i := 16) (oi := ({ dst := (some 4), op := (Op.assign (Operand.tmp 50)), type := 22, pos := "word.go:105", after := #[{ on := 15, ground := Ground.data }, { on := 0, ground := Ground.phase }, { on := 1, ground := Ground.phase }, { on := 2, ground := Ground.phase }, { on := 3, ground := Ground.phase }, { on := 4, ground := Ground.phase }, { on := 5, ground := Ground.phase }, { on := 6, ground := Ground.phase }, { on := 7, ground := Ground.phase }, { on := 8, ground := Ground.phase }, { on := 9, ground := Ground.phase }, { on := 10, ground := Ground.phase }, { on := 11, ground := Ground.phase }, { on := 12, ground := Ground.phase }, { on := 13, ground := Ground.phase }, { on := 14, ground := Ground.phase }, { on := 15, ground := Ground.phase }], guard := none } : Oper)) (v := ?_) rfl (by kernel_rfl) (by kernel_rfl) (by kernel_rfl) (fun _ _ _ h => h) (Or.inl ⟨by rfl, ?_⟩) hHeld ?_
  rotate_left
  · intro w_ hSw; (try dsimp only at hSw); go_simp; try (with_reducible rfl)
  try simp only [Act.put, List.setIfInBounds_toArray, List.set_cons_zero, List.set_cons_succ]
  refine wpAnyH_done (by kernel_rfl) ?_ _
  go_wp2_with fail
  go_ret
  exact ⟨A', rfl, HC'.out, HP.out⟩
end Go.Proofs.Ytlgnfbgjdkbfoaa.Wd
namespace Go.Proofs.Ytlgnfbgjdkbfoaa.Wd
open Go.RowKit Go.Proofs.YtlgnfbgjdkbfoaaW.PrintWords Go.Proofs.YtlgnfbgjdkbfoaaW.PrintLast Go.Proofs.YtlgnfbgjdkbfoaaW.PrintMore Go.Proofs.YtlgnfbgjdkbfoaaXe Go.Proofs.YtlgnfbgjdkbfoaaXs
set_option linter.unusedVariables false
set_option linter.unusedSimpArgs false
attribute [local go_sem ↓] Go.wp_at_zero Go.wp_at_succ
/-- a number is read: n at a place, or just the fault -/
def scanN (b : List Int) (at0 : Nat) : Nat → Nat → Nat → Int → Except (Int × Int) (Int × Nat)
  | 0, _, _, _ => .error (5, (at0 : Int))
  | d + 1, k, a, n => match b[a]? with
    | none => .error (4, (b.length : Int))
    | some c => if c < 128 then (if c = 0 ∧ 0 < k then .error (4, (at0 : Int)) else .ok (n + c % 128 * 128 ^ k, a + 1)) else if k = 8 then .error (5, (at0 : Int)) else scanN b at0 d (k + 1) (a + 1) (n + c % 128 * 128 ^ k)
def numP (b : List Int) (a : Nat) (low high above : Int) : Except (Int × Int) (Int × Nat) :=
  match scanN b a 9 0 a 0 with
  | .error e => .error e
  | .ok (n, a') => if n < low then .error (5, (a : Int)) else if high < n then .error (above, (a : Int)) else .ok (n, a')
def NumPost (w0 : World) (Rs : List Res) (i g : Nat) (v : Value) (err fat : Int) (b : List Int) (R : Except (Int × Int) (Int × Nat)) (e : Ending) (w' : World) : Prop :=
  match R with
  | .ok (n, a) => e = .returned (.int .i64 n) ∧ a ≤ b.length ∧ Hp w0 w' (Rs.set i (.blk g (.cells (rC v err fat (a : Int)).toArray 93 (0, 0))))
  | .error (x, y) => e = gonE x y ∧ ∃ a : Nat, Hp w0 w' (Rs.set i (.blk g (.cells (rC v err fat (a : Int)).toArray 93 (0, 0))))
theorem wraps_i64 (n : Int) (h₀ : 0 ≤ n) (h₁ : n < 2 ^ 63) : IntKind.i64.wrap n = n := by rw [IntKind.wrap_i64]; omega
theorem or_low (i : Nat) (n y : Int) (h0 : 0 ≤ n) (h1 : n < 2 ^ i) (hn : n < 2 ^ 63) (hy0 : 0 ≤ y) (hy : y % 2 ^ i = 0) (hy1 : y < 2 ^ 63) : bits .or .i64 n y = n + y := by
  have hj := bits_join .i64 63 (by decide) wraps_i64 i y n hy0 hy hy1 h0 h1 hn
  obtain ⟨a, rfl⟩ := Int.eq_ofNat_of_zero_le h0
  obtain ⟨c, rfl⟩ := Int.eq_ofNat_of_zero_le hy0
  have ha : a < 2 ^ 63 := by exact_mod_cast hn
  have hc : c < 2 ^ 63 := by exact_mod_cast hy1
  rw [(bits_nat .i64 63 (by decide) wraps_i64 a c ha hc).2, Nat.or_comm, ← (bits_nat .i64 63 (by decide) wraps_i64 c a hc ha).2, hj, Int.add_comm]
theorem drop_one {b : List Int} {a : Nat} {d : Int} (h : b[a]? = some d) : ((b.take (a + 1)).drop a)[0]? = some d := by
  rw [List.getElem?_drop, Nat.add_zero, List.getElem?_take, if_pos (by omega)]; exact h
theorem cell_int1 {w : World} {A : Option Addr} {n : Nat} {k : IntKind} {l : List Int} (h : (Kd.int k).C w A n l) {x : Int} (hj : l[0]? = some x) : ∃ b o, A = some ⟨b, o, none⟩ ∧ w.cell? ⟨b, o, none⟩ = some (.int k x) := by
  have hl : 0 < l.length := (List.getElem?_eq_some_iff.1 hj).1
  obtain ⟨b, o, rfl⟩ := C_addrK (by exact Nat.one_pos) h (by have := h.1; omega)
  obtain ⟨cs, hcs, hr⟩ := range_K h hj
  have h2 : cs = [.int k x] := hcs
  subst h2
  have h3 := hr 0 _ rfl
  exact ⟨b, o, rfl, by simpa using h3⟩
theorem p128 (k : Nat) : (128 : Int) ^ k = 2 ^ (7 * k) := by rw [Int.pow_mul]; rfl
theorem shl7' (d : Int) (k : Nat) (h0 : 0 ≤ d) (h1 : d < 128) (hk : k ≤ 8) : wrap64 (d * 2 ^ (7 * (k : Int)).toNat) = d * 128 ^ k := by
  have hm : (7 * (k : Int)).toNat = 7 * k := by omega
  have hy : 0 ≤ d * 128 ^ k ∧ d * 128 ^ k < 2 ^ 63 := by
    rcases (show k = 0 ∨ k = 1 ∨ k = 2 ∨ k = 3 ∨ k = 4 ∨ k = 5 ∨ k = 6 ∨ k = 7 ∨ k = 8 by omega) with h | h | h | h | h | h | h | h | h <;> subst h <;> omega
  rw [hm, ← p128]
  unfold wrap64
  omega
theorem or7 (n d : Int) (k : Nat) (hn : 0 ≤ n ∧ n < 128 ^ k) (h0 : 0 ≤ d) (h1 : d < 128) (hk : k ≤ 8) : bits .or .i64 n (d * 128 ^ k) = n + d * 128 ^ k ∧ 0 ≤ n + d * 128 ^ k ∧ n + d * 128 ^ k < 128 ^ (k + 1) := by
  have hy : 0 ≤ d * 128 ^ k ∧ d * 128 ^ k < 2 ^ 63 ∧ n < 2 ^ 63 ∧ n + d * 128 ^ k < 128 ^ (k + 1) := by
    rcases (show k = 0 ∨ k = 1 ∨ k = 2 ∨ k = 3 ∨ k = 4 ∨ k = 5 ∨ k = 6 ∨ k = 7 ∨ k = 8 by omega) with h | h | h | h | h | h | h | h | h <;> subst h <;> omega
  refine ⟨or_low (7 * k) n _ hn.1 (by rw [← p128]; exact hn.2) hy.2.2.1 hy.1 (by rw [← p128]; exact Int.mul_emod_left _ _) hy.2.1, by omega, hy.2.2.2⟩
theorem num_err {b : List Int} {a0 : Nat} {e : Int × Int} (low high above : Int) (h : scanN b a0 9 0 a0 0 = .error e) : numP b a0 low high above = .error e := by unfold numP; rw [h]
theorem num_ok {b : List Int} {a0 : Nat} {n : Int} {a : Nat} (low high above : Int) (h : scanN b a0 9 0 a0 0 = .ok (n, a)) : numP b a0 low high above = if n < low then .error (5, (a0 : Int)) else if high < n then .error (above, (a0 : Int)) else .ok (n, a) := by unfold numP; rw [h]
theorem u8_and127 {x : Int} (h₀ : 0 ≤ x) (h₁ : x < 256) : bits .and .u8 x 127 = x % 128 := bits_mask .u8 8 (by decide) wraps_u8 7 (by decide) x h₀ h₁
set_option maxHeartbeats 8000000 in
set_option maxRecDepth 100000 in
theorem c_number {w0 w : World} {Rs : List Res} (HP : Hp w0 w Rs) (i g : Nat) (A : Option Addr) (c : Nat) (b : List Int) (err fat : Int) (a0 : Nat) (hi : Rs[i]? = some (.blk g (.cells (rC (.slice A b.length c) err fat (a0 : Int)).toArray 93 (0, 0)))) (hb : b.length ≤ 140737488355328) (hB : ∀ x ∈ b, 0 ≤ x ∧ x < 256) (hc : b.length ≤ c) (ha : a0 ≤ b.length) (hR : Rd (Kd.int .u8) w0 Rs i A b.length b) (low high above : Int) :
    Calls Try.prog 66 #[.pointer (some ⟨g, 0, none⟩), .int .i64 low, .int .i64 high, .int .i64 above] w fun e w' => NumPost w0 Rs i g (.slice A b.length c) err fat b (numP b a0 low high above) e w' := by
  have HPn := Aside0.mk HP
  clear HP
  have HP := HPn
  clear HPn
  have HI := Aside0.mk hi
  have HB := Aside0.mk hb
  have HBY := Aside0.mk hB
  have HC := Aside0.mk hc
  have HA := Aside0.mk ha
  have HR := Aside0.mk hR
  have hil : i < Rs.length := (List.getElem?_eq_some_iff.1 hi).1
  have HIL := Aside0.mk hil
  have HSELF := Aside0.mk (show Rs.set i (.blk g (.cells (rC (.slice A b.length c) err fat (a0 : Int)).toArray 93 (0, 0))) = Rs from set_self hi)
  have h4 : w.cell? ⟨g, 4, none⟩ = some (.int .i64 (a0 : Int)) := blk_cell (HP.out.blk i HI.out) 4
  have hmf : ∀ (fn : Fn) (first cap : Array Value) (w : World), (Instr.makeFunc fn first cap).run Try.prog w = .ok (.func fn first cap) w := fun fn first cap w => by simp [Instr.makeFunc]
  have HEN := Aside0.mk (fun w e g9 => enters_fn (P := Try.prog) Try.func85 (by kernel_rfl) rfl #[.int .i64 e, .pointer (some ⟨g9, 0, none⟩)] w)
  clear hi hb hB hc ha hR hil
  go_enter Try.func66, Try.ntmps66
  go_wp2_with fail
  clear h4
  have HPn := Aside0.mk (HP.out.alloc (.cells #[.int .i64 (a0 : Int)] 3 (0, 0)))
  clear HP
  obtain ⟨g9, hg9⟩ : ∃ z, w.heap.size = z := ⟨_, rfl⟩
  rw [hg9] at HPn
  rw [hg9]
  rw [← HSELF.out] at HPn
  clear hg9 HSELF
  have HP := HPn
  clear HPn
  obtain ⟨R, hR⟩ : ∃ z, scanN b a0 9 0 a0 0 = z := ⟨_, rfl⟩
  have HRR := Aside0.mk hR
  clear hR
  go_loopg [10, 11] 9 (fun kq v10 v11 w' => ∃ (k a : Nat) (x n : Int), v10 = .int .i64 n ∧ v11 = .int .i64 x ∧ Aside0 (x = (k : Int) ∧ kq + k = 9 ∧ 0 < kq ∧ a = a0 + k ∧ a ≤ b.length) ∧ Aside0 (0 ≤ n ∧ n < 128 ^ k) ∧ Aside0 (scanN b a0 kq k a n = R) ∧ Aside0 (Hp w0 w' (.blk g9 (.cells #[.int .i64 (a0 : Int)] 3 (0, 0)) :: Rs.set i (.blk g (.cells (rC (.slice A b.length c) err fat (a : Int)).toArray 93 (0, 0))))))
  case atStart => exact ⟨0, a0, 0, 0, rfl, rfl, ⟨rfl, rfl, by decide, rfl, HA.out⟩, ⟨by decide, by decide⟩, HRR, HP⟩
  clear HP
  obtain ⟨k, a, x, n, rfl, rfl, HX, HN, HS, HP⟩ := hrel
  cases hba : b[a]? with
  | none =>
    have HBA := Aside0.mk hba
    clear hba
    go_wp2_with fail
    obtain ⟨hx, hkk, hk0, hak, hal⟩ := HX.out
    have hs := HS.out
    obtain ⟨K, rfl⟩ : ∃ z, gk = z + 1 := ⟨gk - 1, by have := List.getElem?_eq_none_iff.1 HBA.out; omega⟩
    unfold scanN at hs
    rw [HBA.out] at hs
    have HE := Aside0.mk (num_err low high above (HRR.out.trans hs.symm))
    have CC := Aside0.mk (c_someE HP.out (i + 1) g A c b err fat a 1 (set_get _ HIL.out) HB.out hal (by have := List.getElem?_eq_none_iff.1 HBA.out; omega) (by decide))
    rw [show ((1 : Nat) : Int) = 1 from rfl] at CC
    refine CC.out.mono ?_; rintro e ws ⟨rfl, hpn⟩
    go_wp2_with fail
    unfold NumPost
    rw [HE.out]
    exact ⟨rfl, rfl, a, hpn.drop1⟩
  | some d =>
    have HBA := Aside0.mk hba
    obtain ⟨d0, d1⟩ := HBY.out d (List.mem_of_getElem? hba)
    have hlt : a < b.length := (List.getElem?_eq_some_iff.1 hba).1
    clear hba
    go_wp2_with fail
    have CC := Aside0.mk (c_some HP.out (i + 1) g A c b err fat a 1 (set_get _ HIL.out) HB.out HC.out (by omega))
    rw [show ((1 : Nat) : Int) = 1 from rfl] at CC
    refine CC.out.mono ?_; rintro e ws ⟨A', rfl, hC', hpn⟩
    have HPn := Aside0.mk (show Hp w0 ws (.blk g9 (.cells #[.int .i64 (a0 : Int)] 3 (0, 0)) :: Rs.set i (.blk g (.cells (rC (.slice A b.length c) err fat ((a + 1 : Nat) : Int)).toArray 93 (0, 0)))) from by have h := hpn; rw [List.set_cons_succ, List.set_set] at h; exact h)
    obtain ⟨Ab, Ao, rfl, k0⟩ := cell_int1 (hC' ws (HR.out ws _ (HPn.out.drop1))) (drop_one HBA.out)
    clear CC HP hpn hC'
    have HP := HPn
    clear HPn
    obtain ⟨dd, hdd⟩ : ∃ z, d % 128 = z := ⟨_, rfl⟩
    have f1 : bits .and .u8 d 127 = dd := by rw [← hdd]; exact u8_and127 d0 d1
    have dd0 : 0 ≤ dd := by omega
    have dd1 : dd < 128 := by omega
    obtain ⟨hx, hkk, hk0, hak, hal⟩ := HX.out
    obtain ⟨hn0, hn1⟩ := HN.out
    have hs := HS.out
    obtain ⟨K, rfl⟩ : ∃ z, gk = z + 1 := ⟨gk - 1, by omega⟩
    unfold scanN at hs
    rw [HBA.out] at hs
    simp only at hs
    rw [hdd] at hs
    obtain ⟨o1, o2, o3⟩ := or7 n dd k ⟨hn0, hn1⟩ dd0 dd1 (by omega)
    have f4 : wrap64 (dd * 2 ^ (7 * x).toNat) = dd * 128 ^ k := by rw [hx]; exact shl7' dd k dd0 dd1 (by omega)
    obtain ⟨y, hy⟩ : ∃ z, dd * 128 ^ k = z := ⟨_, rfl⟩
    rw [hy] at f4 o1 o2 o3 hs
    obtain ⟨n2, hn2⟩ : ∃ z, n + y = z := ⟨_, rfl⟩
    rw [hn2] at o1 o2 o3 hs
    have p0 : 0 ≤ x := by omega
    have p1 : x ≤ 8 := by omega
    have ew : IntKind.i64.wrap (x + 1) = x + 1 := IntWalk.i64_in _ (by omega)
    have HN2 := Aside0.mk (And.intro o2 o3)
    have HXX := Aside0.mk hx
    clear hn0 hn1 hy hn2 hdd hak o2 o3 HN
    by_cases c1 : d < 128
    · have e1 : decide (d < 128) = true := decide_eq_true c1
      rw [if_pos c1] at hs
      by_cases c2 : d = 0 ∧ 0 < k
      · rw [if_pos c2] at hs
        have e2 : (d == 0) = true := beq_iff_eq.2 c2.1
        have e3 : decide (1 < x + 1) = true := decide_eq_true (by omega)
        have HE := Aside0.mk (num_err low high above (HRR.out.trans hs.symm))
        have hen := fun w => HEN.out w 4 g9
        clear c1 c2 hs hx hkk hk0 hal hlt
        go_wp2_with fail
        refine (c_gone 4 (a0 : Int) g9 ws (HP.out.blk 0 rfl)).mono ?_; rintro e w_ ⟨rfl, rfl⟩
        go_wp2_with fail
        unfold NumPost
        rw [HE.out]
        exact ⟨rfl, rfl, a + 1, HP.out.drop1⟩
      · rw [if_neg c2] at hs
        have HE := Aside0.mk (num_ok low high above (HRR.out.trans hs.symm))
        have HAL := Aside0.mk (show a + 1 ≤ b.length by omega)
        have HEN5 := Aside0.mk (fun w => HEN.out w 5 g9)
        have HENA := Aside0.mk (fun w => HEN.out w above g9)
        by_cases c3 : d = 0
        · have e2 : (d == 0) = true := beq_iff_eq.2 c3
          have e3 : decide (1 < x + 1) = false := decide_eq_false (fun h => c2 ⟨c3, by omega⟩)
          clear c1 c2 c3 hs hx hkk hk0 hal hlt
          by_cases c4 : n2 < low
          · have e4 : decide (n2 < low) = true := decide_eq_true c4
            rw [if_pos c4] at HE
            have hen := HEN5.out
            clear c4
            go_wp2_with fail
            refine (c_gone 5 (a0 : Int) g9 ws (HP.out.blk 0 rfl)).mono ?_; rintro e w_ ⟨rfl, rfl⟩
            go_wp2_with fail
            unfold NumPost
            rw [HE.out]
            exact ⟨rfl, rfl, a + 1, HP.out.drop1⟩
          · have e4 : decide (n2 < low) = false := decide_eq_false c4
            rw [if_neg c4] at HE
            by_cases c5 : high < n2
            · have e5 : decide (high < n2) = true := decide_eq_true c5
              rw [if_pos c5] at HE
              have hen := HENA.out
              clear c4 c5
              go_wp2_with fail
              refine (c_gone above (a0 : Int) g9 ws (HP.out.blk 0 rfl)).mono ?_; rintro e w_ ⟨rfl, rfl⟩
              go_wp2_with fail
              unfold NumPost
              rw [HE.out]
              exact ⟨rfl, rfl, a + 1, HP.out.drop1⟩
            · have e5 : decide (high < n2) = false := decide_eq_false c5
              rw [if_neg c5] at HE
              clear c4 c5
              go_wp2_with fail
              go_ret
              unfold NumPost
              rw [HE.out]
              exact ⟨rfl, HAL.out, HP.out.drop1⟩
        · have e2 : (d == 0) = false := beq_eq_false_iff_ne.2 c3
          clear c1 c2 c3 hs hx hkk hk0 hal hlt
          by_cases c4 : n2 < low
          · have e4 : decide (n2 < low) = true := decide_eq_true c4
            rw [if_pos c4] at HE
            have hen := HEN5.out
            clear c4
            go_wp2_with fail
            refine (c_gone 5 (a0 : Int) g9 ws (HP.out.blk 0 rfl)).mono ?_; rintro e w_ ⟨rfl, rfl⟩
            go_wp2_with fail
            unfold NumPost
            rw [HE.out]
            exact ⟨rfl, rfl, a + 1, HP.out.drop1⟩
          · have e4 : decide (n2 < low) = false := decide_eq_false c4
            rw [if_neg c4] at HE
            by_cases c5 : high < n2
            · have e5 : decide (high < n2) = true := decide_eq_true c5
              rw [if_pos c5] at HE
              have hen := HENA.out
              clear c4 c5
              go_wp2_with fail
              refine (c_gone above (a0 : Int) g9 ws (HP.out.blk 0 rfl)).mono ?_; rintro e w_ ⟨rfl, rfl⟩
              go_wp2_with fail
              unfold NumPost
              rw [HE.out]
              exact ⟨rfl, rfl, a + 1, HP.out.drop1⟩
            · have e5 : decide (high < n2) = false := decide_eq_false c5
              rw [if_neg c5] at HE
              clear c4 c5
              go_wp2_with fail
              go_ret
              unfold NumPost
              rw [HE.out]
              exact ⟨rfl, HAL.out, HP.out.drop1⟩
    · have e1 : decide (d < 128) = false := decide_eq_false c1
      rw [if_neg c1] at hs
      by_cases c2 : k = 8
      · rw [if_pos c2] at hs
        have e2 : (x + 1 == 9) = true := beq_iff_eq.2 (by omega)
        have HE := Aside0.mk (num_err low high above (HRR.out.trans hs.symm))
        have hen := fun w => HEN.out w 5 g9
        clear c1 c2 hs hx hkk hk0 hal hlt
        go_wp2_with fail
        refine (c_gone 5 (a0 : Int) g9 ws (HP.out.blk 0 rfl)).mono ?_; rintro e w_ ⟨rfl, rfl⟩
        go_wp2_with fail
        unfold NumPost
        rw [HE.out]
        exact ⟨rfl, rfl, a + 1, HP.out.drop1⟩
      · rw [if_neg c2] at hs
        have e2 : (x + 1 == 9) = false := beq_eq_false_iff_ne.2 (by omega)
        have HSN := Aside0.mk hs
        have HNX := Aside0.mk (show x + 1 = ((k + 1 : Nat) : Int) ∧ K + (k + 1) = 9 ∧ 0 < K ∧ a + 1 = a0 + (k + 1) ∧ a + 1 ≤ b.length by have := HX.out; omega)
        clear c1 c2 hs hx hkk hk0 hal hlt
        go_wp2_with fail
        go_roundg K
        case measure => omega
        case rel => exact ⟨k + 1, a + 1, x + 1, n2, rfl, rfl, HNX, HN2, HSN, HP⟩
end Go.Proofs.Ytlgnfbgjdkbfoaa.Wd
namespace Go.Proofs.Ytlgnfbgjdkbfoaa.Wd
open Go.RowKit Go.Proofs.YtlgnfbgjdkbfoaaW.PrintWords Go.Proofs.YtlgnfbgjdkbfoaaW.PrintLast Go.Proofs.YtlgnfbgjdkbfoaaW.PrintMore Go.Proofs.YtlgnfbgjdkbfoaaXe Go.Proofs.YtlgnfbgjdkbfoaaXs
set_option linter.unusedVariables false
set_option linter.unusedSimpArgs false
attribute [local go_sem ↓] Go.wp_at_zero Go.wp_at_succ
set_option maxHeartbeats 8000000 in
set_option maxRecDepth 100000 in
theorem d_fine (b4 b5 b2 : Nat) (w : World) {x : Value} (hg : w.heap[b4]? = some (.cells #[.bool false] 4 (0, 0))) :
    CallsD Try.prog 84 #[.pointer (some ⟨b4, 0, none⟩), .pointer (some ⟨b5, 0, none⟩), .pointer (some ⟨b2, 0, none⟩)] .returning w fun e u' w' => e = .returned (.tuple #[]) ∧ u' = .returning ∧ w' = w.setCell ⟨b4, 0, none⟩ (.bool true) := by
  have h0 : w.cell? ⟨b4, 0, none⟩ = some (.bool false) := blk_cell hg 0
  have hf := frozC hg 0
  clear hg
  refine callsD_of_wpS Try.func84 rfl fun c₀ cs hu => ?_
  apply wpS_seq
  apply wpS_region
  simp [wpOpsS, go_sem, recoverD, hu, Try.ntmps84, Exit.thenS]
  refine wpS_of_wp (wp_mono (Q := bodyPost Try.prog Try.f84 (fun e w' => e = .returned (.tuple #[]) ∧ w' = w.setCell ⟨b4, 0, none⟩ (.bool true))) ?_ ?_)
  · clear hu
    rw [show (#[.pointer (some ⟨b4, 0, none⟩), .pointer (some ⟨b5, 0, none⟩), .pointer (some ⟨b2, 0, none⟩)] ++ (Array.replicate 19 undef).setIfInBounds 3 Value.nilIface : Array Value) = #[.pointer (some ⟨b4, 0, none⟩), .pointer (some ⟨b5, 0, none⟩), .pointer (some ⟨b2, 0, none⟩), undef, undef, undef, .nilIface, undef, undef, undef, undef, undef, undef, undef, undef, undef, undef, undef, undef, undef, undef, undef] from by apply Array.ext'; simp [List.replicate]]
    go_wp2_with fail
    exact bodyPost_end (v := .tuple #[]) (by simp [results, Try.results84, go_sem]) rfl ⟨rfl, rfl⟩
  · intro e a w' h
    cases e with
    | normal =>
      obtain ⟨h1, v, h2, h3, h4⟩ := h
      exact ⟨h1, .returning, by cases c₀; simp_all, v, h2, h3, rfl, h4⟩
    | ret =>
      obtain ⟨h1, v, h2, h3, h4⟩ := h
      exact ⟨h1, .returning, by cases c₀; simp_all, v, h2, h3, rfl, h4⟩
    | panic c => obtain ⟨_, h3, _⟩ := h; cases h3
    | outgrown => obtain ⟨h3, _⟩ := h; cases h3
    | exit i => exact h.elim
    | goto i => exact h.elim
set_option maxHeartbeats 8000000 in
set_option maxRecDepth 100000 in
theorem d_gone {w0 w : World} {Rs : List Res} (i g : Nat) (v : Value) (err fat at1 at0 e f : Int) (b4 b5 b2 : Nat) (HP : Hp w0 w (.blk b5 (.cells #[.int .i64 at0] 3 (0, 0)) :: .blk b4 (.cells #[.bool false] 4 (0, 0)) :: .blk b2 (.cells #[.pointer (some ⟨g, 0, none⟩)] 57 (0, 0)) :: Rs)) (hi : Rs[i]? = some (.blk g (.cells (rC v err fat at1).toArray 93 (0, 0)))) :
    CallsD Try.prog 84 #[.pointer (some ⟨b4, 0, none⟩), .pointer (some ⟨b5, 0, none⟩), .pointer (some ⟨b2, 0, none⟩)] (.panicking [{ v := goneV e f, recovered := false }]) w fun e' u' w' => e' = .returned (.tuple #[]) ∧ u' = .panicking [{ v := goneV e f, recovered := true }] ∧ Hp w0 w' (.blk b5 (.cells #[.int .i64 at0] 3 (0, 0)) :: .blk b4 (.cells #[.bool false] 4 (0, 0)) :: .blk b2 (.cells #[.pointer (some ⟨g, 0, none⟩)] 57 (0, 0)) :: Rs.set i (.blk g (.cells (rC v e f at0).toArray 93 (0, 0)))) := by
  have HPn := Aside0.mk HP
  have HI := Aside0.mk hi
  clear HP hi
  have HP := HPn
  clear HPn
  refine callsD_of_wpS Try.func84 rfl fun c₀ cs hu => ?_
  apply wpS_seq
  apply wpS_region
  simp [wpOpsS, go_sem, recoverD, hu, Try.ntmps84, Exit.thenS]
  refine wpS_of_wp (wp_mono (Q := bodyPost Try.prog Try.f84 (fun e' w' => e' = .returned (.tuple #[]) ∧ Hp w0 w' (.blk b5 (.cells #[.int .i64 at0] 3 (0, 0)) :: .blk b4 (.cells #[.bool false] 4 (0, 0)) :: .blk b2 (.cells #[.pointer (some ⟨g, 0, none⟩)] 57 (0, 0)) :: Rs.set i (.blk g (.cells (rC v e f at0).toArray 93 (0, 0)))))) ?_ ?_)
  · clear hu
    rw [show (#[.pointer (some ⟨b4, 0, none⟩), .pointer (some ⟨b5, 0, none⟩), .pointer (some ⟨b2, 0, none⟩)] ++ (Array.replicate 19 undef).setIfInBounds 3 (goneV e f) : Array Value) = #[.pointer (some ⟨b4, 0, none⟩), .pointer (some ⟨b5, 0, none⟩), .pointer (some ⟨b2, 0, none⟩), undef, undef, undef, goneV e f, undef, undef, undef, undef, undef, undef, undef, undef, undef, undef, undef, undef, undef, undef, undef] from by apply Array.ext'; simp [List.replicate]]
    have hta : ∀ w : World, (Instr.typeAssert (goneV e f) 20 124 true).run Try.prog w = .ok (.tuple #[.agg #[.int .i64 e, .int .i64 f], .bool true]) w := fun w => by kernel_rfl
    go_wp2_with fail
    have HPn := Aside0.mk (HP.out.alloc (.cells #[.int .i64 e, .int .i64 f] 124 (0, 0)))
    clear HP hta
    obtain ⟨gx, hgx⟩ : ∃ z, w.heap.size = z := ⟨_, rfl⟩
    obtain ⟨wx, hwx⟩ : ∃ z, w.alloc (.cells #[.int .i64 e, .int .i64 f] 124) = z := ⟨_, rfl⟩
    rw [show w.alloc (.cells #[.int .i64 e, .int .i64 f] 124 (0, 0)) = wx from hwx, hgx] at HPn
    rw [hwx, hgx]
    clear hwx hgx
    have HP := HPn
    clear HPn
    have HIL := Aside0.mk (List.getElem?_eq_some_iff.1 HI.out).1
    refine held_named (S := (fun w' => w'.cell? ⟨b2, 0, none⟩ = some (.pointer (some ⟨g, 0, none⟩)) ∧ w'.cell? ⟨b5, 0, none⟩ = some (.int .i64 at0) ∧ w'.cell? ⟨gx, 0, none⟩ = some (.int .i64 e) ∧ w'.cell? ⟨gx, 1, none⟩ = some (.int .i64 f))) (by kernel_rfl) (fun wd8 hwd8 => ?_)
    have HPn := Aside0.mk (HP.out.drewN 1)
    rw [← World.drew_is_drewN, hwd8] at HPn
    clear HP hwd8
    have HP := HPn
    clear HPn
    refine ⟨by (try dsimp only); exact ⟨blk_cell (HP.out.blk 3 rfl) 0, blk_cell (HP.out.blk 1 rfl) 0, blk_cell (HP.out.blk 0 rfl) 0, blk_cell (HP.out.blk 0 rfl) 1⟩, fun hHeld => ?_⟩
    refine wpAnyH_take (i := 0) (oi := ({ dst := (some 12), op := (Op.load 57 (Operand.tmp 2)), type := 57, pos := "word.go:90", after := #[], guard := none } : Oper)) (v := ?_) rfl (by kernel_rfl) (by kernel_rfl) (by kernel_rfl) (fun _ _ _ h => h) (Or.inl ⟨by rfl, ?_⟩) hHeld ?_
    rotate_left
    · intro w_ hSw; (try dsimp only at hSw); go_simp; try (with_reducible rfl)
    try simp only [Act.put, List.setIfInBounds_toArray, List.set_cons_zero, List.set_cons_succ]
    refine wpAnyH_take (i := 1) (oi := ({ dst := (some 13), op := (Op.load 57 (Operand.tmp 2)), type := 57, pos := "word.go:90", after := #[], guard := none } : Oper)) (v := ?_) rfl (by kernel_rfl) (by kernel_rfl) (by kernel_rfl) (fun _ _ _ h => h) (Or.inl ⟨by rfl, ?_⟩) hHeld ?_
    rotate_left
    · intro w_ hSw; (try dsimp only at hSw); go_simp; try (with_reducible rfl)
    try simp only [Act.put, List.setIfInBounds_toArray, List.set_cons_zero, List.set_cons_succ]
    refine wpAnyH_take (i := 2) (oi := ({ dst := (some 14), op := (Op.load 3 (Operand.tmp 1)), type := 3, pos := "word.go:90", after := #[], guard := none } : Oper)) (v := ?_) rfl (by kernel_rfl) (by kernel_rfl) (by kernel_rfl) (fun _ _ _ h => h) (Or.inl ⟨by rfl, ?_⟩) hHeld ?_
    rotate_left
    · intro w_ hSw; (try dsimp only at hSw); go_simp; try (with_reducible rfl)
    try simp only [Act.put, List.setIfInBounds_toArray, List.set_cons_zero, List.set_cons_succ]
    refine wpAnyH_take (i := 3) (oi := ({ dst := (some 15), op := (Op.fieldAddr 124 (Operand.tmp 4) 0), type := 0, pos := "word.go:90", after := #[{ on := 7, ground := (Ground.gcOnly Departure.lateStores) }], guard := none } : Oper)) (v := ?_) rfl (by kernel_rfl) (by kernel_rfl) (by kernel_rfl) (fun _ _ _ h => h) (Or.inl ⟨by rfl, ?_⟩) hHeld ?_
    rotate_left
    · intro w_ hSw; (try dsimp only at hSw); go_simp; try (with_reducible rfl)
    try simp only [Act.put, List.setIfInBounds_toArray, List.set_cons_zero, List.set_cons_succ]
    refine wpAnyH_take (i := 4) (oi := ({ dst := (some 16), op := (Op.load 30 (Operand.tmp 15)), type := 30, pos := "word.go:90", after := #[{ on := 3, ground := Ground.data }, { on := 7, ground := (Ground.gcOnly Departure.lateStores) }], guard := none } : Oper)) (v := ?_) rfl (by kernel_rfl) (by kernel_rfl) (by kernel_rfl) (fun _ _ _ h => h) (Or.inl ⟨by rfl, ?_⟩) hHeld ?_
    rotate_left
    · intro w_ hSw; (try dsimp only at hSw); go_simp; try (with_reducible rfl)
    try simp only [Act.put, List.setIfInBounds_toArray, List.set_cons_zero, List.set_cons_succ]
    refine wpAnyH_take (i := 5) (oi := ({ dst := (some 17), op := (Op.nilCheck (Operand.tmp 12)), type := 0, pos := "word.go:90", after := #[{ on := 0, ground := Ground.data }, { on := 0, ground := Ground.phase }, { on := 1, ground := Ground.phase }, { on := 2, ground := Ground.phase }, { on := 3, ground := (Ground.textOnly Departure.lateStores) }, { on := 4, ground := (Ground.textOnly Departure.lateStores) }], guard := none } : Oper)) (v := ?_) rfl (by kernel_rfl) (by kernel_rfl) (by kernel_rfl) (fun _ _ _ h => h) (Or.inl ⟨by rfl, ?_⟩) hHeld ?_
    rotate_left
    · intro w_ hSw; (try dsimp only at hSw); go_simp; try (with_reducible rfl)
    try simp only [Act.put, List.setIfInBounds_toArray, List.set_cons_zero, List.set_cons_succ]
    refine wpAnyH_take (i := 6) (oi := ({ dst := (some 18), op := (Op.fieldAddr 93 (Operand.tmp 17) 1), type := 0, pos := "word.go:90", after := #[{ on := 5, ground := Ground.data }, { on := 0, ground := Ground.phase }, { on := 1, ground := Ground.phase }, { on := 2, ground := Ground.phase }, { on := 3, ground := (Ground.textOnly Departure.lateStores) }, { on := 4, ground := (Ground.textOnly Departure.lateStores) }], guard := none } : Oper)) (v := ?_) rfl (by kernel_rfl) (by kernel_rfl) (by kernel_rfl) (fun _ _ _ h => h) (Or.inl ⟨by rfl, ?_⟩) hHeld ?_
    rotate_left
    · intro w_ hSw; (try dsimp only at hSw); go_simp; try (with_reducible rfl)
    try simp only [Act.put, List.setIfInBounds_toArray, List.set_cons_zero, List.set_cons_succ]
    refine wpAnyH_ready (rs := [7]) (by kernel_rfl) (by simp) ?_
    refine AllReadyH.cons (o := ({ dst := none, op := (Op.store 3 (Operand.tmp 18) (Operand.tmp 14)), type := 0, pos := "word.go:90", after := #[{ on := 6, ground := Ground.data }, { on := 2, ground := Ground.data }, { on := 0, ground := Ground.phase }, { on := 1, ground := Ground.phase }, { on := 2, ground := Ground.phase }, { on := 3, ground := (Ground.textOnly Departure.lateStores) }, { on := 4, ground := (Ground.textOnly Departure.lateStores) }], guard := none } : Oper)) rfl (fun K hK => ?_) AllReadyH.nil
    have hc4 := blk_cell (HP.out.blk (i + 4) HI.out) 4; have hf4 := frozC (HP.out.blk (i + 4) HI.out) 4; rw [show (rC v err fat at1).toArray[4]? = some (.int .i64 at1) from rfl] at hc4; have HPn := Aside0.mk (HP.out.setCell (i + 4) HI.out 4 (.int .i64 at0)); go_simp; clear HP hc4 hf4; have HP := HPn; clear HPn
    clear hHeld
    refine hK.out _ _ ?_ (fun hHeld => ?_)
    · (try dsimp only); exact ⟨blk_cell (HP.out.blk 3 rfl) 0, blk_cell (HP.out.blk 1 rfl) 0, blk_cell (HP.out.blk 0 rfl) 0, blk_cell (HP.out.blk 0 rfl) 1⟩
    clear hK K
    try simp only [Act.put, List.setIfInBounds_toArray, List.set_cons_zero, List.set_cons_succ]
    refine wpAnyH_take (i := 8) (oi := ({ dst := (some 19), op := (Op.nilCheck (Operand.tmp 13)), type := 0, pos := "word.go:90", after := #[{ on := 1, ground := Ground.data }, { on := 0, ground := Ground.phase }, { on := 1, ground := Ground.phase }, { on := 2, ground := Ground.phase }, { on := 3, ground := Ground.phase }, { on := 4, ground := Ground.phase }, { on := 5, ground := Ground.phase }, { on := 6, ground := Ground.phase }, { on := 7, ground := Ground.phase }], guard := none } : Oper)) (v := ?_) rfl (by kernel_rfl) (by kernel_rfl) (by kernel_rfl) (fun _ _ _ h => h) (Or.inl ⟨by rfl, ?_⟩) hHeld ?_
    rotate_left
    · intro w_ hSw; (try dsimp only at hSw); go_simp; try (with_reducible rfl)
    try simp only [Act.put, List.setIfInBounds_toArray, List.set_cons_zero, List.set_cons_succ]
    refine wpAnyH_take (i := 9) (oi := ({ dst := (some 20), op := (Op.fieldAddr 93 (Operand.tmp 19) 0), type := 0, pos := "word.go:90", after := #[{ on := 8, ground := Ground.data }, { on := 0, ground := Ground.phase }, { on := 1, ground := Ground.phase }, { on := 2, ground := Ground.phase }, { on := 3, ground := Ground.phase }, { on := 4, ground := Ground.phase }, { on := 5, ground := Ground.phase }, { on := 6, ground := Ground.phase }, { on := 7, ground := Ground.phase }], guard := none } : Oper)) (v := ?_) rfl (by kernel_rfl) (by kernel_rfl) (by kernel_rfl) (fun _ _ _ h => h) (Or.inl ⟨by rfl, ?_⟩) hHeld ?_
    rotate_left
    · intro w_ hSw; (try dsimp only at hSw); go_simp; try (with_reducible rfl)
    try simp only [Act.put, List.setIfInBounds_toArray, List.set_cons_zero, List.set_cons_succ]
    refine wpAnyH_take (i := 10) (oi := ({ dst := (some 21), op := (Op.fieldAddr 91 (Operand.tmp 20) 2), type := 0, pos := "word.go:90", after := #[{ on := 9, ground := Ground.data }, { on := 0, ground := Ground.phase }, { on := 1, ground := Ground.phase }, { on := 2, ground := Ground.phase }, { on := 3, ground := Ground.phase }, { on := 4, ground := Ground.phase }, { on := 5, ground := Ground.phase }, { on := 6, ground := Ground.phase }, { on := 7, ground := Ground.phase }], guard := none } : Oper)) (v := ?_) rfl (by kernel_rfl) (by kernel_rfl) (by kernel_rfl) (fun _ _ _ h => h) (Or.inl ⟨by rfl, ?_⟩) hHeld ?_
    rotate_left
    · intro w_ hSw; (try dsimp only at hSw); go_simp; try (with_reducible rfl)
    try simp only [Act.put, List.setIfInBounds_toArray, List.set_cons_zero, List.set_cons_succ]
    refine wpAnyH_ready (rs := [11]) (by kernel_rfl) (by simp) ?_
    refine AllReadyH.cons (o := ({ dst := none, op := (Op.store 30 (Operand.tmp 21) (Operand.tmp 16)), type := 0, pos := "word.go:90", after := #[{ on := 10, ground := Ground.data }, { on := 4, ground := Ground.data }, { on := 7, ground := Ground.chain }, { on := 0, ground := Ground.phase }, { on := 1, ground := Ground.phase }, { on := 2, ground := Ground.phase }, { on := 3, ground := Ground.phase }, { on := 4, ground := Ground.phase }, { on := 5, ground := Ground.phase }, { on := 6, ground := Ground.phase }, { on := 7, ground := Ground.phase }], guard := none } : Oper)) rfl (fun K hK => ?_) AllReadyH.nil
    have hg2 := HP.out.blk (i + 4) (set_get _ (by simpa using HIL.out)); have hc2 := blk_cell hg2 2; have hc3 := blk_cell hg2 3; have hf2 := frozC hg2 2; have hf3 := frozC hg2 3; rw [show ((rC v err fat at1).toArray.setIfInBounds 4 (.int .i64 at0))[2]? = some (.int .i64 err) from rfl] at hc2; rw [show ((rC v err fat at1).toArray.setIfInBounds 4 (.int .i64 at0))[3]? = some (.int .i64 fat) from rfl] at hc3; have HPn := Aside0.mk ((HP.out.setCell (i + 4) (set_get _ (by simpa using HIL.out)) 2 (.int .i64 e)).setCell (i + 4) (set_get _ (by simpa using HIL.out)) 3 (.int .i64 f)); go_simp; clear HP hg2 hc2 hc3 hf2 hf3; have HP := HPn; clear HPn
    clear hHeld
    refine hK.out _ _ ?_ (fun hHeld => ?_)
    · (try dsimp only); exact ⟨blk_cell (HP.out.blk 3 rfl) 0, blk_cell (HP.out.blk 1 rfl) 0, blk_cell (HP.out.blk 0 rfl) 0, blk_cell (HP.out.blk 0 rfl) 1⟩
    clear hK K
    try simp only [Act.put, List.setIfInBounds_toArray, List.set_cons_zero, List.set_cons_succ]
    refine wpAnyH_done (by kernel_rfl) ?_ _
    go_wp2_with fail
    refine bodyPost_end (v := .tuple #[]) (by simp [results, Try.results84, go_sem]) rfl ?_
    exact ⟨rfl, by have h := HP.out.drop1; simp only [List.set_set] at h; exact h⟩
  · intro e' a w' h
    cases e' with
    | normal =>
      obtain ⟨h1, v', h2, h3, h4⟩ := h
      exact ⟨h1, .panicking [{ v := goneV e f, recovered := true }], by cases c₀; simp_all, v', h2, h3, rfl, h4⟩
    | ret =>
      obtain ⟨h1, v', h2, h3, h4⟩ := h
      exact ⟨h1, .panicking [{ v := goneV e f, recovered := true }], by cases c₀; simp_all, v', h2, h3, rfl, h4⟩
    | panic c => obtain ⟨_, h3, _⟩ := h; cases h3
    | outgrown => obtain ⟨h3, _⟩ := h; cases h3
    | exit i => exact h.elim
    | goto i => exact h.elim
end Go.Proofs.Ytlgnfbgjdkbfoaa.Wd
namespace Go.Proofs.Ytlgnfbgjdkbfoaa.Wd
open Go.RowKit Go.Proofs.YtlgnfbgjdkbfoaaW.PrintWords Go.Proofs.YtlgnfbgjdkbfoaaW.PrintLast Go.Proofs.YtlgnfbgjdkbfoaaW.PrintMore Go.Proofs.YtlgnfbgjdkbfoaaXe Go.Proofs.YtlgnfbgjdkbfoaaXs
set_option linter.unusedVariables false
set_option linter.unusedSimpArgs false
attribute [local go_sem ↓] Go.wp_at_zero Go.wp_at_succ
set_option maxHeartbeats 8000000 in
set_option maxRecDepth 100000 in
theorem c_noneB (g : Nat) (v : Value) (err fat at_ : Int) (w : World) (hg : w.heap[g]? = some (.cells (rC v err fat at_).toArray 93 (0, 0))) :
    Calls Try.prog 68 #[.pointer (some ⟨g, 0, none⟩)] w fun e w' => e = .returned (.bool false) ∧ w' = w := by
  have h0 : w.cell? ⟨g, 0, none⟩ = some (.bool true) := blk_cell hg 0
  clear hg
  go_enter Try.func68, Try.ntmps68
  go_wp2_with fail
  go_ret
  exact ⟨rfl, rfl⟩
set_option maxHeartbeats 8000000 in
set_option maxRecDepth 100000 in
theorem c_tryN {w0 w : World} {Rs : List Res} (HP : Hp w0 w Rs) (i g : Nat) (v : Value) (err fat at_ : Int) (hi : Rs[i]? = some (.blk g (.cells (rC v err fat at_).toArray 93 (0, 0)))) (he : err ≠ 0) (fv : Value) :
    Calls Try.prog 64 #[.pointer (some ⟨g, 0, none⟩), fv] w fun e w' => e = .returned (.bool false) ∧ Hp w0 w' Rs := by
  have HPn := Aside0.mk HP
  have HI := Aside0.mk hi
  clear HP hi
  have HP := HPn
  clear HPn
  have hmf : ∀ (fn : Fn) (first cap : Array Value) (w : World), (Instr.makeFunc fn first cap).run Try.prog w = .ok (.func fn first cap) w := fun fn first cap w => by simp [Instr.makeFunc]
  have d1 : (err != 0) = true := bne_iff_ne.2 he
  clear he
  go_enter_defers Try.func64, Try.ntmps64
  go_wp2_with (first | ((with_reducible refine gate_dst (N := 2) rfl ?_); refine ev_boxv rfl 57 (.tmp 0) rfl (.pointer (some ⟨g, 0, none⟩)) rfl rfl ?_; intro b2 wa hge hg hb; have HPn := Aside0.mk (HP.out.newB hb hg hge); clear HP; have HP := HPn; clear HPn; clear hge hg hb) | ((with_reducible refine gate_dst (N := 4) rfl ?_); refine ev_alloc rfl 4 rfl (.bool false) (by kernel_rfl) ?_; intro b4 wb hge hg hb; have HPn := Aside0.mk (HP.out.newB hb hg hge); clear HP; have HP := HPn; clear HPn; clear hge hg hb; have h2 := blk_cell (HP.out.blk 1 rfl) 0))
  refine (c_noneB g v err fat at_ _ (HP.out.blk (i + 2) HI.out)).mono ?_; rintro e w_ ⟨rfl, rfl⟩
  have h3 : w_.cell? ⟨g, 2, none⟩ = some (.int .i64 err) := blk_cell (HP.out.blk (i + 2) HI.out) 2
  have h4 : w_.cell? ⟨b4, 0, none⟩ = some (.bool false) := blk_cell (HP.out.blk 0 rfl) 0
  have hf4 := frozC (HP.out.blk 0 rfl) 0
  go_wp2_with fail
  have hc9 : (w_.setCell ⟨b4, 0, none⟩ (.bool false)).cell? ⟨b4, 0, none⟩ = some (.bool false) := blk_cell ((HP.out.setCell 0 rfl 0 (.bool false)).blk 0 rfl) 0
  exact ⟨.bool false, by simp [results, Try.results64, go_sem, hc9], rfl, (HP.out.setCell 0 rfl 0 (.bool false)).drop1.drop1⟩
set_option maxHeartbeats 8000000 in
set_option maxRecDepth 100000 in
theorem c_tryA {w0 w : World} {Rs : List Res} (HP : Hp w0 w Rs) (i g : Nat) (v : Value) (fat at_ : Int) (hi : Rs[i]? = some (.blk g (.cells (rC v 0 fat at_).toArray 93 (0, 0)))) (F : FuncId) (cap : Array Value) (hen : ∀ w, (callFunc F cap).run Try.prog w = .ok (.enter F cap) w) (Rs2 : List Res)
    (hF : ∀ b5 b4 b2 w1, Hp w0 w1 (.blk b5 (.cells #[.int .i64 at_] 3 (0, 0)) :: .blk b4 (.cells #[.bool false] 4 (0, 0)) :: .blk b2 (.cells #[.pointer (some ⟨g, 0, none⟩)] 57 (0, 0)) :: Rs) → Calls Try.prog F cap w1 fun e w' => e = .returned (.tuple #[]) ∧ Hp w0 w' (.blk b5 (.cells #[.int .i64 at_] 3 (0, 0)) :: .blk b4 (.cells #[.bool false] 4 (0, 0)) :: .blk b2 (.cells #[.pointer (some ⟨g, 0, none⟩)] 57 (0, 0)) :: Rs2)) :
    Calls Try.prog 64 #[.pointer (some ⟨g, 0, none⟩), .func (.func F) #[] cap] w fun e w' => e = .returned (.bool true) ∧ Hp w0 w' Rs2 := by
  have HPn := Aside0.mk HP
  have HI := Aside0.mk hi
  clear HP hi
  have HP := HPn
  clear HPn
  have hmf : ∀ (fn : Fn) (first cap : Array Value) (w : World), (Instr.makeFunc fn first cap).run Try.prog w = .ok (.func fn first cap) w := fun fn first cap w => by simp [Instr.makeFunc]
  have HF := Aside0.mk hF
  clear hF
  go_enter_defers Try.func64, Try.ntmps64
  go_wp2_with (first | ((with_reducible refine gate_dst (N := 2) rfl ?_); refine ev_boxv rfl 57 (.tmp 0) rfl (.pointer (some ⟨g, 0, none⟩)) rfl rfl ?_; intro b2 wa hge hg hb; have HPn := Aside0.mk (HP.out.newB hb hg hge); clear HP; have HP := HPn; clear HPn; clear hge hg hb) | ((with_reducible refine gate_dst (N := 4) rfl ?_); refine ev_alloc rfl 4 rfl (.bool false) (by kernel_rfl) ?_; intro b4 wb hge hg hb; have HPn := Aside0.mk (HP.out.newB hb hg hge); clear HP; have HP := HPn; clear HPn; clear hge hg hb; have h2 := blk_cell (HP.out.blk 1 rfl) 0))
  refine (c_noneB g v 0 fat at_ _ (HP.out.blk (i + 2) HI.out)).mono ?_; rintro e w_ ⟨rfl, rfl⟩
  have h3 : w_.cell? ⟨g, 2, none⟩ = some (.int .i64 0) := blk_cell (HP.out.blk (i + 2) HI.out) 2
  have h34 : w_.cell? ⟨g, 4, none⟩ = some (.int .i64 at_) := blk_cell (HP.out.blk (i + 2) HI.out) 4
  go_wp2_with fail
  have HPn := Aside0.mk (HP.out.alloc (.cells #[.int .i64 at_] 3 (0, 0)))
  clear HP h2 h3 h34
  obtain ⟨b5, hb5⟩ : ∃ z, w_.heap.size = z := ⟨_, rfl⟩
  obtain ⟨wx, hwx⟩ : ∃ z, w_.alloc (.cells #[.int .i64 at_] 3) = z := ⟨_, rfl⟩
  rw [show w_.alloc (.cells #[.int .i64 at_] 3 (0, 0)) = wx from hwx, hb5] at HPn
  rw [hwx, hb5]
  clear hwx hb5
  have HP := HPn
  clear HPn
  refine (HF.out b5 b4 b2 wx HP.out).mono ?_; rintro e wf ⟨rfl, hpn⟩
  clear HP
  have HP := Aside0.mk hpn
  clear hpn
  go_wp2_with fail
  refine leaves_cons (f := 84) (args := #[.pointer (some ⟨b4, 0, none⟩), .pointer (some ⟨b5, 0, none⟩), .pointer (some ⟨b2, 0, none⟩)]) (by simp) (by simp [go_sem]) ?_
  refine (d_fine b4 b5 b2 _ (x := undef) (HP.out.blk 1 rfl)).mono ?_
  rintro e u' w'' ⟨rfl, rfl, rfl⟩
  have HP9 := HP.out.setCell 1 rfl 0 (.bool true)
  have hc9 : (wf.setCell ⟨b4, 0, none⟩ (.bool true)).cell? ⟨b4, 0, none⟩ = some (.bool true) := blk_cell (HP9.blk 1 rfl) 0
  exact ⟨.bool true, by simp [results, Try.results64, go_sem, hc9], rfl, HP9.drop1.drop1.drop1⟩
set_option maxHeartbeats 8000000 in
set_option maxRecDepth 100000 in
theorem c_tryB {w0 w : World} {Rs : List Res} (HP : Hp w0 w Rs) (i g : Nat) (v : Value) (fat at_ : Int) (hi : Rs[i]? = some (.blk g (.cells (rC v 0 fat at_).toArray 93 (0, 0)))) (F : FuncId) (cap : Array Value) (hen : ∀ w, (callFunc F cap).run Try.prog w = .ok (.enter F cap) w) (P : List Res → Prop) (x y : Int)
    (hF : ∀ b5 b4 b2 w1, Hp w0 w1 (.blk b5 (.cells #[.int .i64 at_] 3 (0, 0)) :: .blk b4 (.cells #[.bool false] 4 (0, 0)) :: .blk b2 (.cells #[.pointer (some ⟨g, 0, none⟩)] 57 (0, 0)) :: Rs) → Calls Try.prog F cap w1 fun e w' => e = gonE x y ∧ ∃ (at1 : Int) (Rs2 : List Res), P Rs2 ∧ Rs2[i]? = some (.blk g (.cells (rC v 0 fat at1).toArray 93 (0, 0))) ∧ Hp w0 w' (.blk b5 (.cells #[.int .i64 at_] 3 (0, 0)) :: .blk b4 (.cells #[.bool false] 4 (0, 0)) :: .blk b2 (.cells #[.pointer (some ⟨g, 0, none⟩)] 57 (0, 0)) :: Rs2)) :
    Calls Try.prog 64 #[.pointer (some ⟨g, 0, none⟩), .func (.func F) #[] cap] w fun e w' => e = .returned (.bool false) ∧ ∃ Rs2, P Rs2 ∧ Hp w0 w' (Rs2.set i (.blk g (.cells (rC v x y at_).toArray 93 (0, 0)))) := by
  have HPn := Aside0.mk HP
  have HI := Aside0.mk hi
  clear HP hi
  have HP := HPn
  clear HPn
  have hmf : ∀ (fn : Fn) (first cap : Array Value) (w : World), (Instr.makeFunc fn first cap).run Try.prog w = .ok (.func fn first cap) w := fun fn first cap w => by simp [Instr.makeFunc]
  have HF := Aside0.mk hF
  clear hF
  go_enter_defers Try.func64, Try.ntmps64
  go_wp2_with (first | ((with_reducible refine gate_dst (N := 2) rfl ?_); refine ev_boxv rfl 57 (.tmp 0) rfl (.pointer (some ⟨g, 0, none⟩)) rfl rfl ?_; intro b2 wa hge hg hb; have HPn := Aside0.mk (HP.out.newB hb hg hge); clear HP; have HP := HPn; clear HPn; clear hge hg hb) | ((with_reducible refine gate_dst (N := 4) rfl ?_); refine ev_alloc rfl 4 rfl (.bool false) (by kernel_rfl) ?_; intro b4 wb hge hg hb; have HPn := Aside0.mk (HP.out.newB hb hg hge); clear HP; have HP := HPn; clear HPn; clear hge hg hb; have h2 := blk_cell (HP.out.blk 1 rfl) 0))
  refine (c_noneB g v 0 fat at_ _ (HP.out.blk (i + 2) HI.out)).mono ?_; rintro e w_ ⟨rfl, rfl⟩
  have h3 : w_.cell? ⟨g, 2, none⟩ = some (.int .i64 0) := blk_cell (HP.out.blk (i + 2) HI.out) 2
  have h34 : w_.cell? ⟨g, 4, none⟩ = some (.int .i64 at_) := blk_cell (HP.out.blk (i + 2) HI.out) 4
  go_wp2_with fail
  have HPn := Aside0.mk (HP.out.alloc (.cells #[.int .i64 at_] 3 (0, 0)))
  clear HP h2 h3 h34
  obtain ⟨b5, hb5⟩ : ∃ z, w_.heap.size = z := ⟨_, rfl⟩
  obtain ⟨wx, hwx⟩ : ∃ z, w_.alloc (.cells #[.int .i64 at_] 3) = z := ⟨_, rfl⟩
  rw [show w_.alloc (.cells #[.int .i64 at_] 3 (0, 0)) = wx from hwx, hb5] at HPn
  rw [hwx, hb5]
  clear hwx hb5
  have HP := HPn
  clear HPn
  refine (HF.out b5 b4 b2 wx HP.out).mono ?_; rintro e wf ⟨rfl, at1, Rs2, hP2, hi2, hpn⟩
  clear HP
  have HP := Aside0.mk hpn
  clear hpn
  go_wp2_with fail
  refine leaves_cons (f := 84) (args := #[.pointer (some ⟨b4, 0, none⟩), .pointer (some ⟨b5, 0, none⟩), .pointer (some ⟨b2, 0, none⟩)]) (by simp) (by simp [go_sem]) ?_
  refine (d_gone i g v 0 fat at1 at_ x y b4 b5 b2 HP.out hi2).mono ?_
  rintro e u' w'' ⟨rfl, rfl, hpn⟩
  have hc9 : w''.cell? ⟨b4, 0, none⟩ = some (.bool false) := blk_cell (hpn.blk 1 rfl) 0
  exact ⟨.bool false, by simp [results, Try.results64, go_sem, hc9], rfl, Rs2, hP2, hpn.drop1.drop1.drop1⟩
end Go.Proofs.Ytlgnfbgjdkbfoaa.Wd
namespace Go.Proofs.Ytlgnfbgjdkbfoaa.Wd
open Go.RowKit Go.Proofs.YtlgnfbgjdkbfoaaW.PrintWords Go.Proofs.YtlgnfbgjdkbfoaaW.PrintLast Go.Proofs.YtlgnfbgjdkbfoaaW.PrintMore Go.Proofs.YtlgnfbgjdkbfoaaXe Go.Proofs.YtlgnfbgjdkbfoaaXs
set_option linter.unusedVariables false
set_option linter.unusedSimpArgs false
attribute [local go_sem ↓] Go.wp_at_zero Go.wp_at_succ
/-- a reader -/
structure RS where
  at_ : Nat
  err : Int
  fat : Int
def rdrP (b : List Int) (s : RS) (v : Value) : Prop := s.at_ ≤ b.length ∧ b.length ≤ 140737488355328 ∧ ∀ x ∈ b, 0 ≤ x ∧ x < 256
def rdrL (base g : Nat) (b : List Int) (s : RS) (v : Value) : List Res :=
  [.blk g (.cells (rC v s.err s.fat (s.at_ : Int)).toArray 93 (0, 0)), .row (Kd.int .u8) 5 base v b]
def rReader (base g : Nat) (b : List Int) (s : RS) : Res := .ex fun v => .fact (rdrP b s v) (.all (rdrL base g b s v))
theorem Hp.closeR {w0 w : World} {Rs : List Res} (s : RS) {i base g : Nat} {b : List Int} {v : Value} (hm : s.at_ ≤ b.length ∧ b.length ≤ 140737488355328 ∧ ∀ x ∈ b, 0 ≤ x ∧ x < 256) (hl : i < Rs.length)
    (h : Hp w0 w (.blk g (.cells (rC v s.err s.fat (s.at_ : Int)).toArray 93 (0, 0)) :: .row (Kd.int .u8) 5 base v b :: Rs.set i .none)) : Hp w0 w (Rs.set i (rReader base g b s)) :=
  Hp.closeE (p := rdrP b s) (rdrL base g b s) v hm i hl h
theorem scanN_le (b : List Int) (at0 : Nat) : ∀ (d k a : Nat) (n n' : Int) (a' : Nat), scanN b at0 d k a n = .ok (n', a') → a' ≤ b.length
  | 0, _, _, _, _, _, h => by simp [scanN] at h
  | d + 1, k, a, n, n', a', h => by
    unfold scanN at h
    cases hb : b[a]? with
    | none => rw [hb] at h; simp at h
    | some c =>
      rw [hb] at h
      have hlt : a < b.length := (List.getElem?_eq_some_iff.1 hb).1
      simp only at h
      split at h
      · split at h
        · simp at h
        · simp at h; omega
      · split at h
        · simp at h
        · exact scanN_le b at0 d _ _ _ _ _ h
theorem numP_le {b : List Int} {a : Nat} {low high above n : Int} {a' : Nat} (h : numP b a low high above = .ok (n, a')) : a' ≤ b.length := by
  unfold numP at h
  cases hs : scanN b a 9 0 a 0 with
  | error e => rw [hs] at h; simp at h
  | ok p =>
    obtain ⟨n2, a2⟩ := p
    rw [hs] at h
    have := scanN_le b a 9 0 a 0 n2 a2 hs
    simp only at h
    split at h
    · simp at h
    · split at h
      · simp at h
      · simp at h; omega
def InP (w0 : World) (len : Nat) (R : Except (Int × Int) (Int × Nat)) (ok : Int → Nat → List Res) (er : Nat → List Res) (e : Ending) (w' : World) : Prop :=
  match R with
  | .ok (n, a) => e = .returned (.tuple #[]) ∧ a ≤ len ∧ Hp w0 w' (ok n a)
  | .error (x, y) => e = gonE x y ∧ ∃ a' : Nat, Hp w0 w' (er a')
/-- a number is read, or a fault is kept -/
def rNum (b : List Int) (s : RS) (low high above : Int) : Int × RS :=
  if s.err ≠ 0 then (0, s) else match numP b s.at_ low high above with
  | .ok (n, a) => (n, { s with at_ := a })
  | .error (x, y) => (0, { s with err := x, fat := y })
set_option maxHeartbeats 8000000 in
set_option maxRecDepth 100000 in
theorem c_int1 {w0 w : World} {Rs : List Res} (t1 t2 t3 : Res) (g : Nat) (A : Option Addr) (c : Nat) (b : List Int) (fat : Int) (a : Nat) (hb : b.length ≤ 140737488355328) (hB : ∀ x ∈ b, 0 ≤ x ∧ x < 256) (hc : b.length ≤ c) (ha : a ≤ b.length) (low high : Int) (b3 b4 b5 b7 : Nat)
    (HP : Hp w0 w (t1 :: t2 :: t3 :: .blk b7 (.cells #[.int .i64 0] 3 (0, 0)) :: .blk b5 (.cells #[.int .i64 high] 3 (0, 0)) :: .blk b4 (.cells #[.int .i64 low] 3 (0, 0)) :: .blk b3 (.cells #[.pointer (some ⟨g, 0, none⟩)] 57 (0, 0)) :: .blk g (.cells (rC (.slice A b.length c) 0 fat (a : Int)).toArray 93 (0, 0)) :: .row (Kd.int .u8) 5 w0.heap.size (.slice A b.length c) b :: Rs)) :
    Calls Try.prog 65 #[.pointer (some ⟨b3, 0, none⟩), .pointer (some ⟨b4, 0, none⟩), .pointer (some ⟨b5, 0, none⟩), .pointer (some ⟨b7, 0, none⟩)] w fun e w' => InP w0 b.length (numP b a low high 5) (fun n a' => t1 :: t2 :: t3 :: .blk b7 (.cells #[.int .i64 n] 3 (0, 0)) :: .blk b5 (.cells #[.int .i64 high] 3 (0, 0)) :: .blk b4 (.cells #[.int .i64 low] 3 (0, 0)) :: .blk b3 (.cells #[.pointer (some ⟨g, 0, none⟩)] 57 (0, 0)) :: .blk g (.cells (rC (.slice A b.length c) 0 fat (a' : Int)).toArray 93 (0, 0)) :: .row (Kd.int .u8) 5 w0.heap.size (.slice A b.length c) b :: Rs) (fun a' => t1 :: t2 :: t3 :: .blk b7 (.cells #[.int .i64 0] 3 (0, 0)) :: .blk b5 (.cells #[.int .i64 high] 3 (0, 0)) :: .blk b4 (.cells #[.int .i64 low] 3 (0, 0)) :: .blk b3 (.cells #[.pointer (some ⟨g, 0, none⟩)] 57 (0, 0)) :: .blk g (.cells (rC (.slice A b.length c) 0 fat (a' : Int)).toArray 93 (0, 0)) :: .row (Kd.int .u8) 5 w0.heap.size (.slice A b.length c) b :: Rs) e w' := by
  have HPn := Aside0.mk HP
  clear HP
  have HP := HPn
  clear HPn
  have CN := Aside0.mk (fun w1 (h : Hp w0 w1 (t1 :: t2 :: t3 :: .blk b7 (.cells #[.int .i64 0] 3 (0, 0)) :: .blk b5 (.cells #[.int .i64 high] 3 (0, 0)) :: .blk b4 (.cells #[.int .i64 low] 3 (0, 0)) :: .blk b3 (.cells #[.pointer (some ⟨g, 0, none⟩)] 57 (0, 0)) :: .blk g (.cells (rC (.slice A b.length c) 0 fat (a : Int)).toArray 93 (0, 0)) :: .row (Kd.int .u8) 5 w0.heap.size (.slice A b.length c) b :: Rs)) => c_number h 7 g A c b 0 fat a rfl hb hB hc ha (Rd.row (c := c) 8 (by decide) rfl) low high 5)
  clear hb hB hc ha
  have hq1 : w.cell? ⟨b5, 0, none⟩ = some (.int .i64 high) := blk_cell (HP.out.blk 4 rfl) 0
  have hq2 : w.cell? ⟨b4, 0, none⟩ = some (.int .i64 low) := blk_cell (HP.out.blk 5 rfl) 0
  have hq3 : w.cell? ⟨b3, 0, none⟩ = some (.pointer (some ⟨g, 0, none⟩)) := blk_cell (HP.out.blk 6 rfl) 0
  go_enter Try.func65, Try.ntmps65
  go_wp2_with fail
  refine (CN.out _ HP.out).mono ?_; rintro e w1 hpost
  clear CN
  unfold NumPost at hpost
  cases hr : numP b a low high 5 with
  | error p =>
    obtain ⟨x, y⟩ := p
    rw [hr] at hpost
    obtain ⟨rfl, a', hpn⟩ := hpost
    go_wp2_with fail
    refine ⟨rfl, ?_⟩
    unfold InP
    rw [hr]
    exact ⟨rfl, a', hpn⟩
  | ok p =>
    obtain ⟨n, a'⟩ := p
    rw [hr] at hpost
    obtain ⟨rfl, hal, hpn⟩ := hpost
    have HRR := Aside0.mk hr
    have HAL := Aside0.mk hal
    clear HP hr hal
    have HP := Aside0.mk hpn
    clear hpn
    have h7 : w1.cell? ⟨b7, 0, none⟩ = some (.int .i64 0) := blk_cell (HP.out.blk 3 rfl) 0
    have hf7 := frozC (HP.out.blk 3 rfl) 0
    have HPn := HP.out.setCell 3 rfl 0 (.int .i64 n)
    go_wp2_with fail
    refine bodyPost_end (v := .tuple #[]) (by simp [results, Try.results65, go_sem]) rfl ?_
    unfold InP
    rw [HRR.out]
    exact ⟨rfl, HAL.out, HPn⟩
set_option maxHeartbeats 8000000 in
set_option maxRecDepth 100000 in
theorem c_count1 {w0 w : World} {Rs : List Res} (t1 t2 t3 : Res) (g : Nat) (A : Option Addr) (c : Nat) (b : List Int) (fat : Int) (a : Nat) (hb : b.length ≤ 140737488355328) (hB : ∀ x ∈ b, 0 ≤ x ∧ x < 256) (hc : b.length ≤ c) (ha : a ≤ b.length) (most : Int) (b3 b4 b7 : Nat)
    (HP : Hp w0 w (t1 :: t2 :: t3 :: .blk b7 (.cells #[.int .i64 0] 3 (0, 0)) :: .blk b4 (.cells #[.int .i64 most] 3 (0, 0)) :: .blk b3 (.cells #[.pointer (some ⟨g, 0, none⟩)] 57 (0, 0)) :: .blk g (.cells (rC (.slice A b.length c) 0 fat (a : Int)).toArray 93 (0, 0)) :: .row (Kd.int .u8) 5 w0.heap.size (.slice A b.length c) b :: Rs)) :
    Calls Try.prog 67 #[.pointer (some ⟨b3, 0, none⟩), .pointer (some ⟨b4, 0, none⟩), .pointer (some ⟨b7, 0, none⟩)] w fun e w' => InP w0 b.length (numP b a 0 most 3) (fun n a' => t1 :: t2 :: t3 :: .blk b7 (.cells #[.int .i64 n] 3 (0, 0)) :: .blk b4 (.cells #[.int .i64 most] 3 (0, 0)) :: .blk b3 (.cells #[.pointer (some ⟨g, 0, none⟩)] 57 (0, 0)) :: .blk g (.cells (rC (.slice A b.length c) 0 fat (a' : Int)).toArray 93 (0, 0)) :: .row (Kd.int .u8) 5 w0.heap.size (.slice A b.length c) b :: Rs) (fun a' => t1 :: t2 :: t3 :: .blk b7 (.cells #[.int .i64 0] 3 (0, 0)) :: .blk b4 (.cells #[.int .i64 most] 3 (0, 0)) :: .blk b3 (.cells #[.pointer (some ⟨g, 0, none⟩)] 57 (0, 0)) :: .blk g (.cells (rC (.slice A b.length c) 0 fat (a' : Int)).toArray 93 (0, 0)) :: .row (Kd.int .u8) 5 w0.heap.size (.slice A b.length c) b :: Rs) e w' := by
  have HPn := Aside0.mk HP
  clear HP
  have HP := HPn
  clear HPn
  have CN := Aside0.mk (fun w1 (h : Hp w0 w1 (t1 :: t2 :: t3 :: .blk b7 (.cells #[.int .i64 0] 3 (0, 0)) :: .blk b4 (.cells #[.int .i64 most] 3 (0, 0)) :: .blk b3 (.cells #[.pointer (some ⟨g, 0, none⟩)] 57 (0, 0)) :: .blk g (.cells (rC (.slice A b.length c) 0 fat (a : Int)).toArray 93 (0, 0)) :: .row (Kd.int .u8) 5 w0.heap.size (.slice A b.length c) b :: Rs)) => c_number h 6 g A c b 0 fat a rfl hb hB hc ha (Rd.row (c := c) 7 (by decide) rfl) 0 most 3)
  clear hb hB hc ha
  have hq1 : w.cell? ⟨b4, 0, none⟩ = some (.int .i64 most) := blk_cell (HP.out.blk 4 rfl) 0
  have hq2 : w.cell? ⟨b3, 0, none⟩ = some (.pointer (some ⟨g, 0, none⟩)) := blk_cell (HP.out.blk 5 rfl) 0
  go_enter Try.func67, Try.ntmps67
  go_wp2_with fail
  refine (CN.out _ HP.out).mono ?_; rintro e w1 hpost
  clear CN
  unfold NumPost at hpost
  cases hr : numP b a 0 most 3 with
  | error p =>
    obtain ⟨x, y⟩ := p
    rw [hr] at hpost
    obtain ⟨rfl, a', hpn⟩ := hpost
    go_wp2_with fail
    refine ⟨rfl, ?_⟩
    unfold InP
    rw [hr]
    exact ⟨rfl, a', hpn⟩
  | ok p =>
    obtain ⟨n, a'⟩ := p
    rw [hr] at hpost
    obtain ⟨rfl, hal, hpn⟩ := hpost
    have HRR := Aside0.mk hr
    have HAL := Aside0.mk hal
    clear HP hr hal
    have HP := Aside0.mk hpn
    clear hpn
    have h7 : w1.cell? ⟨b7, 0, none⟩ = some (.int .i64 0) := blk_cell (HP.out.blk 3 rfl) 0
    have hf7 := frozC (HP.out.blk 3 rfl) 0
    have HPn := HP.out.setCell 3 rfl 0 (.int .i64 n)
    go_wp2_with fail
    refine bodyPost_end (v := .tuple #[]) (by simp [results, Try.results67, go_sem]) rfl ?_
    unfold InP
    rw [HRR.out]
    exact ⟨rfl, HAL.out, HPn⟩
set_option maxHeartbeats 8000000 in
set_option maxRecDepth 100000 in
theorem c_rint {w0 w : World} {Rs : List Res} (HP : Hp w0 w Rs) (i g : Nat) (b : List Int) (s : RS) (hi : Rs[i]? = some (rReader w0.heap.size g b s)) (low high : Int) :
    Calls Try.prog 31 #[.pointer (some ⟨g, 0, none⟩), .int .i64 low, .int .i64 high] w fun e w' => e = .returned (.int .i64 (rNum b s low high 5).1) ∧ Hp w0 w' (Rs.set i (rReader w0.heap.size g b (rNum b s low high 5).2)) := by
  have HSELF := Aside0.mk (show Rs.set i (rReader w0.heap.size g b s) = Rs from set_self hi)
  obtain ⟨v, hm, HP0⟩ := HP.openE i hi
  have HP1 : Hp w0 w (.blk g (.cells (rC v s.err s.fat (s.at_ : Int)).toArray 93 (0, 0)) :: .row (Kd.int .u8) 5 w0.heap.size v b :: Rs.set i .none) := HP0
  have hil : i < Rs.length := (List.getElem?_eq_some_iff.1 hi).1
  have hm2 : s.at_ ≤ b.length ∧ b.length ≤ 140737488355328 ∧ ∀ x ∈ b, 0 ≤ x ∧ x < 256 := hm
  have HPn := Aside0.mk HP1
  have HM := Aside0.mk hm2
  have HI := Aside0.mk hil
  clear HP HP0 HP1 hm hm2 hil hi
  have HP := HPn
  clear HPn
  obtain ⟨A, c, rfl⟩ := Kd.R_slice (HP.out.row 1 rfl)
  have HC := Aside0.mk (Kd.R_reads' (HP.out.row 1 rfl)).2.1
  have hmf : ∀ (fn : Fn) (first cap : Array Value) (w : World), (Instr.makeFunc fn first cap).run Try.prog w = .ok (.func fn first cap) w := fun fn first cap w => by simp [Instr.makeFunc]
  have HEN := Aside0.mk (fun w (b3 b4 b5 b7 : Nat) => enters_fn (P := Try.prog) Try.func65 (by kernel_rfl) rfl #[.pointer (some ⟨b3, 0, none⟩), .pointer (some ⟨b4, 0, none⟩), .pointer (some ⟨b5, 0, none⟩), .pointer (some ⟨b7, 0, none⟩)] w)
  unfold rNum
  by_cases he : s.err = 0
  · rw [if_neg (by rw [he]; decide)]
    rw [he] at HP
    cases hr : numP b s.at_ low high 5 with
    | error p =>
      obtain ⟨x, y⟩ := p
      have HRR := Aside0.mk hr
      clear hr
      go_enter Try.func31, Try.ntmps31
      go_wp2_with (first | ((with_reducible refine gate_dst (N := 3) rfl ?_); refine ev_boxv rfl 57 (.tmp 0) rfl (.pointer (some ⟨g, 0, none⟩)) rfl rfl ?_; intro b3 wb0 hge hg hb; have HPn := Aside0.mk (HP.out.newB hb hg hge); clear HP; have HP := HPn; clear HPn; clear hge hg hb) | ((with_reducible refine gate_dst (N := 4) rfl ?_); refine ev_boxv rfl 3 (.tmp 1) rfl (.int .i64 low) rfl rfl ?_; intro b4 wb1 hge hg hb; have HPn := Aside0.mk (HP.out.newB hb hg hge); clear HP; have HP := HPn; clear HPn; clear hge hg hb) | ((with_reducible refine gate_dst (N := 5) rfl ?_); refine ev_boxv rfl 3 (.tmp 2) rfl (.int .i64 high) rfl rfl ?_; intro b5 wb2 hge hg hb; have HPn := Aside0.mk (HP.out.newB hb hg hge); clear HP; have HP := HPn; clear HPn; clear hge hg hb; have hq0 : (wb2.alloc (.cells #[.int .i64 0] 3)).cell? ⟨b3, 0, none⟩ = some (.pointer (some ⟨g, 0, none⟩)) := blk_cell ((HP.out.alloc (.cells #[.int .i64 0] 3 (0, 0))).blk 3 rfl) 0; have hq1 : (wb2.alloc (.cells #[.int .i64 0] 3)).cell? ⟨b4, 0, none⟩ = some (.int .i64 low) := blk_cell ((HP.out.alloc (.cells #[.int .i64 0] 3 (0, 0))).blk 2 rfl) 0; have hq2 : (wb2.alloc (.cells #[.int .i64 0] 3)).cell? ⟨b5, 0, none⟩ = some (.int .i64 high) := blk_cell ((HP.out.alloc (.cells #[.int .i64 0] 3 (0, 0))).blk 1 rfl) 0))
      have HPn := Aside0.mk (HP.out.alloc (.cells #[.int .i64 0] 3 (0, 0)))
      clear HP hq0 hq1 hq2
      obtain ⟨b7, hb7⟩ : ∃ z, wb2.heap.size = z := ⟨_, rfl⟩
      obtain ⟨wv, hwv⟩ : ∃ z, wb2.alloc (.cells #[.int .i64 0] 3) = z := ⟨_, rfl⟩
      rw [show wb2.alloc (.cells #[.int .i64 0] 3 (0, 0)) = wv from hwv, hb7] at HPn
      rw [hwv, hb7]
      clear hwv hb7
      have HP := HPn
      clear HPn
      have CT := Aside0.mk (c_tryB HP.out 4 g (.slice A b.length c) s.fat (s.at_ : Int) rfl 65 #[.pointer (some ⟨b3, 0, none⟩), .pointer (some ⟨b4, 0, none⟩), .pointer (some ⟨b5, 0, none⟩), .pointer (some ⟨b7, 0, none⟩)] (fun w => HEN.out w b3 b4 b5 b7) (fun R => ∃ a' : Nat, R = (.blk b7 (.cells #[.int .i64 0] 3 (0, 0)) :: .blk b5 (.cells #[.int .i64 high] 3 (0, 0)) :: .blk b4 (.cells #[.int .i64 low] 3 (0, 0)) :: .blk b3 (.cells #[.pointer (some ⟨g, 0, none⟩)] 57 (0, 0)) :: .blk g (.cells (rC (.slice A b.length c) 0 s.fat (a' : Int)).toArray 93 (0, 0)) :: .row (Kd.int .u8) 5 w0.heap.size (.slice A b.length c) b :: Rs.set i .none)) x y (fun t1 t2 t3 w1 h => (c_int1 (.blk t1 _) (.blk t2 _) (.blk t3 _) g A c b s.fat s.at_ HM.out.2.1 HM.out.2.2 HC.out HM.out.1 low high b3 b4 b5 b7 h).mono fun e w' h9 => by
        unfold InP at h9
        rw [HRR.out] at h9
        obtain ⟨h1, a', h2⟩ := h9
        exact ⟨h1, _, _, ⟨a', rfl⟩, rfl, h2⟩))
      refine CT.out.mono ?_; rintro e w2 ⟨rfl, Rs2, ⟨a', rfl⟩, hpn⟩
      clear CT HP
      go_wp2_with fail
      go_ret
      exact ⟨rfl, Hp.closeR { s with err := x, fat := y } HM.out HI.out (hpn.drop1.drop1.drop1.drop1)⟩
    | ok p =>
      obtain ⟨n, a'⟩ := p
      have HRR := Aside0.mk hr
      have HAA := Aside0.mk (numP_le hr)
      clear hr
      go_enter Try.func31, Try.ntmps31
      go_wp2_with (first | ((with_reducible refine gate_dst (N := 3) rfl ?_); refine ev_boxv rfl 57 (.tmp 0) rfl (.pointer (some ⟨g, 0, none⟩)) rfl rfl ?_; intro b3 wb0 hge hg hb; have HPn := Aside0.mk (HP.out.newB hb hg hge); clear HP; have HP := HPn; clear HPn; clear hge hg hb) | ((with_reducible refine gate_dst (N := 4) rfl ?_); refine ev_boxv rfl 3 (.tmp 1) rfl (.int .i64 low) rfl rfl ?_; intro b4 wb1 hge hg hb; have HPn := Aside0.mk (HP.out.newB hb hg hge); clear HP; have HP := HPn; clear HPn; clear hge hg hb) | ((with_reducible refine gate_dst (N := 5) rfl ?_); refine ev_boxv rfl 3 (.tmp 2) rfl (.int .i64 high) rfl rfl ?_; intro b5 wb2 hge hg hb; have HPn := Aside0.mk (HP.out.newB hb hg hge); clear HP; have HP := HPn; clear HPn; clear hge hg hb; have hq0 : (wb2.alloc (.cells #[.int .i64 0] 3)).cell? ⟨b3, 0, none⟩ = some (.pointer (some ⟨g, 0, none⟩)) := blk_cell ((HP.out.alloc (.cells #[.int .i64 0] 3 (0, 0))).blk 3 rfl) 0; have hq1 : (wb2.alloc (.cells #[.int .i64 0] 3)).cell? ⟨b4, 0, none⟩ = some (.int .i64 low) := blk_cell ((HP.out.alloc (.cells #[.int .i64 0] 3 (0, 0))).blk 2 rfl) 0; have hq2 : (wb2.alloc (.cells #[.int .i64 0] 3)).cell? ⟨b5, 0, none⟩ = some (.int .i64 high) := blk_cell ((HP.out.alloc (.cells #[.int .i64 0] 3 (0, 0))).blk 1 rfl) 0))
      have HPn := Aside0.mk (HP.out.alloc (.cells #[.int .i64 0] 3 (0, 0)))
      clear HP hq0 hq1 hq2
      obtain ⟨b7, hb7⟩ : ∃ z, wb2.heap.size = z := ⟨_, rfl⟩
      obtain ⟨wv, hwv⟩ : ∃ z, wb2.alloc (.cells #[.int .i64 0] 3) = z := ⟨_, rfl⟩
      rw [show wb2.alloc (.cells #[.int .i64 0] 3 (0, 0)) = wv from hwv, hb7] at HPn
      rw [hwv, hb7]
      clear hwv hb7
      have HP := HPn
      clear HPn
      have CT := Aside0.mk (c_tryA HP.out 4 g (.slice A b.length c) s.fat (s.at_ : Int) rfl 65 #[.pointer (some ⟨b3, 0, none⟩), .pointer (some ⟨b4, 0, none⟩), .pointer (some ⟨b5, 0, none⟩), .pointer (some ⟨b7, 0, none⟩)] (fun w => HEN.out w b3 b4 b5 b7) (.blk b7 (.cells #[.int .i64 n] 3 (0, 0)) :: .blk b5 (.cells #[.int .i64 high] 3 (0, 0)) :: .blk b4 (.cells #[.int .i64 low] 3 (0, 0)) :: .blk b3 (.cells #[.pointer (some ⟨g, 0, none⟩)] 57 (0, 0)) :: .blk g (.cells (rC (.slice A b.length c) 0 s.fat (a' : Int)).toArray 93 (0, 0)) :: .row (Kd.int .u8) 5 w0.heap.size (.slice A b.length c) b :: Rs.set i .none) (fun t1 t2 t3 w1 h => (c_int1 (.blk t1 _) (.blk t2 _) (.blk t3 _) g A c b s.fat s.at_ HM.out.2.1 HM.out.2.2 HC.out HM.out.1 low high b3 b4 b5 b7 h).mono fun e w' h9 => by
        unfold InP at h9
        rw [HRR.out] at h9
        exact ⟨h9.1, h9.2.2⟩))
      refine CT.out.mono ?_; rintro e w2 ⟨rfl, hpn⟩
      clear CT HP
      have HP := Aside0.mk hpn
      clear hpn
      have h7 : w2.cell? ⟨b7, 0, none⟩ = some (.int .i64 n) := blk_cell (HP.out.blk 0 rfl) 0
      go_wp2_with fail
      go_ret
      exact ⟨rfl, Hp.closeR { s with at_ := a' } ⟨HAA.out, HM.out.2⟩ HI.out (by have h := HP.out.drop1.drop1.drop1.drop1; rw [← he] at h; exact h)⟩
  · rw [if_pos he]
    go_enter Try.func31, Try.ntmps31
    go_wp2_with (first | ((with_reducible refine gate_dst (N := 3) rfl ?_); refine ev_boxv rfl 57 (.tmp 0) rfl (.pointer (some ⟨g, 0, none⟩)) rfl rfl ?_; intro b3 wb0 hge hg hb; have HPn := Aside0.mk (HP.out.newB hb hg hge); clear HP; have HP := HPn; clear HPn; clear hge hg hb) | ((with_reducible refine gate_dst (N := 4) rfl ?_); refine ev_boxv rfl 3 (.tmp 1) rfl (.int .i64 low) rfl rfl ?_; intro b4 wb1 hge hg hb; have HPn := Aside0.mk (HP.out.newB hb hg hge); clear HP; have HP := HPn; clear HPn; clear hge hg hb) | ((with_reducible refine gate_dst (N := 5) rfl ?_); refine ev_boxv rfl 3 (.tmp 2) rfl (.int .i64 high) rfl rfl ?_; intro b5 wb2 hge hg hb; have HPn := Aside0.mk (HP.out.newB hb hg hge); clear HP; have HP := HPn; clear HPn; clear hge hg hb; have hq0 : (wb2.alloc (.cells #[.int .i64 0] 3)).cell? ⟨b3, 0, none⟩ = some (.pointer (some ⟨g, 0, none⟩)) := blk_cell ((HP.out.alloc (.cells #[.int .i64 0] 3 (0, 0))).blk 3 rfl) 0; have hq1 : (wb2.alloc (.cells #[.int .i64 0] 3)).cell? ⟨b4, 0, none⟩ = some (.int .i64 low) := blk_cell ((HP.out.alloc (.cells #[.int .i64 0] 3 (0, 0))).blk 2 rfl) 0; have hq2 : (wb2.alloc (.cells #[.int .i64 0] 3)).cell? ⟨b5, 0, none⟩ = some (.int .i64 high) := blk_cell ((HP.out.alloc (.cells #[.int .i64 0] 3 (0, 0))).blk 1 rfl) 0))
    have HPn := Aside0.mk (HP.out.alloc (.cells #[.int .i64 0] 3 (0, 0)))
    clear HP hq0 hq1 hq2
    obtain ⟨b7, hb7⟩ : ∃ z, wb2.heap.size = z := ⟨_, rfl⟩
    obtain ⟨wv, hwv⟩ : ∃ z, wb2.alloc (.cells #[.int .i64 0] 3) = z := ⟨_, rfl⟩
    rw [show wb2.alloc (.cells #[.int .i64 0] 3 (0, 0)) = wv from hwv, hb7] at HPn
    rw [hwv, hb7]
    clear hwv hb7
    have HP := HPn
    clear HPn
    refine (c_tryN HP.out 4 g (.slice A b.length c) s.err s.fat (s.at_ : Int) rfl he _).mono ?_; rintro e w2 ⟨rfl, hpn⟩
    clear HP
    go_wp2_with fail
    go_ret
    exact ⟨rfl, Hp.closeR s HM.out HI.out (hpn.drop1.drop1.drop1.drop1)⟩
set_option maxHeartbeats 8000000 in
set_option maxRecDepth 100000 in
theorem c_rcount {w0 w : World} {Rs : List Res} (HP : Hp w0 w Rs) (i g : Nat) (b : List Int) (s : RS) (hi : Rs[i]? = some (rReader w0.heap.size g b s)) (most : Int) :
    Calls Try.prog 32 #[.pointer (some ⟨g, 0, none⟩), .int .i64 most] w fun e w' => e = .returned (.int .i64 (rNum b s 0 most 3).1) ∧ Hp w0 w' (Rs.set i (rReader w0.heap.size g b (rNum b s 0 most 3).2)) := by
  have HSELF := Aside0.mk (show Rs.set i (rReader w0.heap.size g b s) = Rs from set_self hi)
  obtain ⟨v, hm, HP0⟩ := HP.openE i hi
  have HP1 : Hp w0 w (.blk g (.cells (rC v s.err s.fat (s.at_ : Int)).toArray 93 (0, 0)) :: .row (Kd.int .u8) 5 w0.heap.size v b :: Rs.set i .none) := HP0
  have hil : i < Rs.length := (List.getElem?_eq_some_iff.1 hi).1
  have hm2 : s.at_ ≤ b.length ∧ b.length ≤ 140737488355328 ∧ ∀ x ∈ b, 0 ≤ x ∧ x < 256 := hm
  have HPn := Aside0.mk HP1
  have HM := Aside0.mk hm2
  have HI := Aside0.mk hil
  clear HP HP0 HP1 hm hm2 hil hi
  have HP := HPn
  clear HPn
  obtain ⟨A, c, rfl⟩ := Kd.R_slice (HP.out.row 1 rfl)
  have HC := Aside0.mk (Kd.R_reads' (HP.out.row 1 rfl)).2.1
  have hmf : ∀ (fn : Fn) (first cap : Array Value) (w : World), (Instr.makeFunc fn first cap).run Try.prog w = .ok (.func fn first cap) w := fun fn first cap w => by simp [Instr.makeFunc]
  have HEN := Aside0.mk (fun w (b3 b4 b7 : Nat) => enters_fn (P := Try.prog) Try.func67 (by kernel_rfl) rfl #[.pointer (some ⟨b3, 0, none⟩), .pointer (some ⟨b4, 0, none⟩), .pointer (some ⟨b7, 0, none⟩)] w)
  unfold rNum
  by_cases he : s.err = 0
  · rw [if_neg (by rw [he]; decide)]
    rw [he] at HP
    cases hr : numP b s.at_ 0 most 3 with
    | error p =>
      obtain ⟨x, y⟩ := p
      have HRR := Aside0.mk hr
      clear hr
      go_enter Try.func32, Try.ntmps32
      go_wp2_with (first | ((with_reducible refine gate_dst (N := 2) rfl ?_); refine ev_boxv rfl 57 (.tmp 0) rfl (.pointer (some ⟨g, 0, none⟩)) rfl rfl ?_; intro b3 wb0 hge hg hb; have HPn := Aside0.mk (HP.out.newB hb hg hge); clear HP; have HP := HPn; clear HPn; clear hge hg hb) | ((with_reducible refine gate_dst (N := 3) rfl ?_); refine ev_boxv rfl 3 (.tmp 1) rfl (.int .i64 most) rfl rfl ?_; intro b4 wb1 hge hg hb; have HPn := Aside0.mk (HP.out.newB hb hg hge); clear HP; have HP := HPn; clear HPn; clear hge hg hb; have hq0 : (wb1.alloc (.cells #[.int .i64 0] 3)).cell? ⟨b3, 0, none⟩ = some (.pointer (some ⟨g, 0, none⟩)) := blk_cell ((HP.out.alloc (.cells #[.int .i64 0] 3 (0, 0))).blk 2 rfl) 0; have hq1 : (wb1.alloc (.cells #[.int .i64 0] 3)).cell? ⟨b4, 0, none⟩ = some (.int .i64 most) := blk_cell ((HP.out.alloc (.cells #[.int .i64 0] 3 (0, 0))).blk 1 rfl) 0))
      have HPn := Aside0.mk (HP.out.alloc (.cells #[.int .i64 0] 3 (0, 0)))
      clear HP hq0 hq1
      obtain ⟨b7, hb7⟩ : ∃ z, wb1.heap.size = z := ⟨_, rfl⟩
      obtain ⟨wv, hwv⟩ : ∃ z, wb1.alloc (.cells #[.int .i64 0] 3) = z := ⟨_, rfl⟩
      rw [show wb1.alloc (.cells #[.int .i64 0] 3 (0, 0)) = wv from hwv, hb7] at HPn
      rw [hwv, hb7]
      clear hwv hb7
      have HP := HPn
      clear HPn
      have CT := Aside0.mk (c_tryB HP.out 3 g (.slice A b.length c) s.fat (s.at_ : Int) rfl 67 #[.pointer (some ⟨b3, 0, none⟩), .pointer (some ⟨b4, 0, none⟩), .pointer (some ⟨b7, 0, none⟩)] (fun w => HEN.out w b3 b4 b7) (fun R => ∃ a' : Nat, R = (.blk b7 (.cells #[.int .i64 0] 3 (0, 0)) :: .blk b4 (.cells #[.int .i64 most] 3 (0, 0)) :: .blk b3 (.cells #[.pointer (some ⟨g, 0, none⟩)] 57 (0, 0)) :: .blk g (.cells (rC (.slice A b.length c) 0 s.fat (a' : Int)).toArray 93 (0, 0)) :: .row (Kd.int .u8) 5 w0.heap.size (.slice A b.length c) b :: Rs.set i .none)) x y (fun t1 t2 t3 w1 h => (c_count1 (.blk t1 _) (.blk t2 _) (.blk t3 _) g A c b s.fat s.at_ HM.out.2.1 HM.out.2.2 HC.out HM.out.1 most b3 b4 b7 h).mono fun e w' h9 => by
        unfold InP at h9
        rw [HRR.out] at h9
        obtain ⟨h1, a', h2⟩ := h9
        exact ⟨h1, _, _, ⟨a', rfl⟩, rfl, h2⟩))
      refine CT.out.mono ?_; rintro e w2 ⟨rfl, Rs2, ⟨a', rfl⟩, hpn⟩
      clear CT HP
      go_wp2_with fail
      go_ret
      exact ⟨rfl, Hp.closeR { s with err := x, fat := y } HM.out HI.out (hpn.drop1.drop1.drop1)⟩
    | ok p =>
      obtain ⟨n, a'⟩ := p
      have HRR := Aside0.mk hr
      have HAA := Aside0.mk (numP_le hr)
      clear hr
      go_enter Try.func32, Try.ntmps32
      go_wp2_with (first | ((with_reducible refine gate_dst (N := 2) rfl ?_); refine ev_boxv rfl 57 (.tmp 0) rfl (.pointer (some ⟨g, 0, none⟩)) rfl rfl ?_; intro b3 wb0 hge hg hb; have HPn := Aside0.mk (HP.out.newB hb hg hge); clear HP; have HP := HPn; clear HPn; clear hge hg hb) | ((with_reducible refine gate_dst (N := 3) rfl ?_); refine ev_boxv rfl 3 (.tmp 1) rfl (.int .i64 most) rfl rfl ?_; intro b4 wb1 hge hg hb; have HPn := Aside0.mk (HP.out.newB hb hg hge); clear HP; have HP := HPn; clear HPn; clear hge hg hb; have hq0 : (wb1.alloc (.cells #[.int .i64 0] 3)).cell? ⟨b3, 0, none⟩ = some (.pointer (some ⟨g, 0, none⟩)) := blk_cell ((HP.out.alloc (.cells #[.int .i64 0] 3 (0, 0))).blk 2 rfl) 0; have hq1 : (wb1.alloc (.cells #[.int .i64 0] 3)).cell? ⟨b4, 0, none⟩ = some (.int .i64 most) := blk_cell ((HP.out.alloc (.cells #[.int .i64 0] 3 (0, 0))).blk 1 rfl) 0))
      have HPn := Aside0.mk (HP.out.alloc (.cells #[.int .i64 0] 3 (0, 0)))
      clear HP hq0 hq1
      obtain ⟨b7, hb7⟩ : ∃ z, wb1.heap.size = z := ⟨_, rfl⟩
      obtain ⟨wv, hwv⟩ : ∃ z, wb1.alloc (.cells #[.int .i64 0] 3) = z := ⟨_, rfl⟩
      rw [show wb1.alloc (.cells #[.int .i64 0] 3 (0, 0)) = wv from hwv, hb7] at HPn
      rw [hwv, hb7]
      clear hwv hb7
      have HP := HPn
      clear HPn
      have CT := Aside0.mk (c_tryA HP.out 3 g (.slice A b.length c) s.fat (s.at_ : Int) rfl 67 #[.pointer (some ⟨b3, 0, none⟩), .pointer (some ⟨b4, 0, none⟩), .pointer (some ⟨b7, 0, none⟩)] (fun w => HEN.out w b3 b4 b7) (.blk b7 (.cells #[.int .i64 n] 3 (0, 0)) :: .blk b4 (.cells #[.int .i64 most] 3 (0, 0)) :: .blk b3 (.cells #[.pointer (some ⟨g, 0, none⟩)] 57 (0, 0)) :: .blk g (.cells (rC (.slice A b.length c) 0 s.fat (a' : Int)).toArray 93 (0, 0)) :: .row (Kd.int .u8) 5 w0.heap.size (.slice A b.length c) b :: Rs.set i .none) (fun t1 t2 t3 w1 h => (c_count1 (.blk t1 _) (.blk t2 _) (.blk t3 _) g A c b s.fat s.at_ HM.out.2.1 HM.out.2.2 HC.out HM.out.1 most b3 b4 b7 h).mono fun e w' h9 => by
        unfold InP at h9
        rw [HRR.out] at h9
        exact ⟨h9.1, h9.2.2⟩))
      refine CT.out.mono ?_; rintro e w2 ⟨rfl, hpn⟩
      clear CT HP
      have HP := Aside0.mk hpn
      clear hpn
      have h7 : w2.cell? ⟨b7, 0, none⟩ = some (.int .i64 n) := blk_cell (HP.out.blk 0 rfl) 0
      go_wp2_with fail
      go_ret
      exact ⟨rfl, Hp.closeR { s with at_ := a' } ⟨HAA.out, HM.out.2⟩ HI.out (by have h := HP.out.drop1.drop1.drop1; rw [← he] at h; exact h)⟩
  · rw [if_pos he]
    go_enter Try.func32, Try.ntmps32
    go_wp2_with (first | ((with_reducible refine gate_dst (N := 2) rfl ?_); refine ev_boxv rfl 57 (.tmp 0) rfl (.pointer (some ⟨g, 0, none⟩)) rfl rfl ?_; intro b3 wb0 hge hg hb; have HPn := Aside0.mk (HP.out.newB hb hg hge); clear HP; have HP := HPn; clear HPn; clear hge hg hb) | ((with_reducible refine gate_dst (N := 3) rfl ?_); refine ev_boxv rfl 3 (.tmp 1) rfl (.int .i64 most) rfl rfl ?_; intro b4 wb1 hge hg hb; have HPn := Aside0.mk (HP.out.newB hb hg hge); clear HP; have HP := HPn; clear HPn; clear hge hg hb; have hq0 : (wb1.alloc (.cells #[.int .i64 0] 3)).cell? ⟨b3, 0, none⟩ = some (.pointer (some ⟨g, 0, none⟩)) := blk_cell ((HP.out.alloc (.cells #[.int .i64 0] 3 (0, 0))).blk 2 rfl) 0; have hq1 : (wb1.alloc (.cells #[.int .i64 0] 3)).cell? ⟨b4, 0, none⟩ = some (.int .i64 most) := blk_cell ((HP.out.alloc (.cells #[.int .i64 0] 3 (0, 0))).blk 1 rfl) 0))
    have HPn := Aside0.mk (HP.out.alloc (.cells #[.int .i64 0] 3 (0, 0)))
    clear HP hq0 hq1
    obtain ⟨b7, hb7⟩ : ∃ z, wb1.heap.size = z := ⟨_, rfl⟩
    obtain ⟨wv, hwv⟩ : ∃ z, wb1.alloc (.cells #[.int .i64 0] 3) = z := ⟨_, rfl⟩
    rw [show wb1.alloc (.cells #[.int .i64 0] 3 (0, 0)) = wv from hwv, hb7] at HPn
    rw [hwv, hb7]
    clear hwv hb7
    have HP := HPn
    clear HPn
    refine (c_tryN HP.out 3 g (.slice A b.length c) s.err s.fat (s.at_ : Int) rfl he _).mono ?_; rintro e w2 ⟨rfl, hpn⟩
    clear HP
    go_wp2_with fail
    go_ret
    exact ⟨rfl, Hp.closeR s HM.out HI.out (hpn.drop1.drop1.drop1)⟩
end Go.Proofs.Ytlgnfbgjdkbfoaa.Wd
namespace Go.Proofs.Ytlgnfbgjdkbfoaa.Wd
open Go.RowKit Go.Proofs.YtlgnfbgjdkbfoaaW.PrintWords Go.Proofs.YtlgnfbgjdkbfoaaW.PrintLast Go.Proofs.YtlgnfbgjdkbfoaaW.PrintMore Go.Proofs.YtlgnfbgjdkbfoaaXe Go.Proofs.YtlgnfbgjdkbfoaaXs
set_option linter.unusedVariables false
set_option linter.unusedSimpArgs false
attribute [local go_sem ↓] Go.wp_at_zero Go.wp_at_succ
/-- a text is read: its bytes, or just the fault -/
def txtP (b : List Int) (a : Nat) (most : Int) : Except (Int × Int) (List Int × Nat) :=
  match numP b a 0 most 3 with
  | .error e => .error e
  | .ok (n, a') => if b.length < a' + n.toNat then .error (4, (b.length : Int)) else .ok ((b.take (a' + n.toNat)).drop a', a' + n.toNat)
def rTxt (b : List Int) (s : RS) (most : Int) : List Int × RS :=
  if s.err ≠ 0 then ([], s) else match txtP b s.at_ most with
  | .ok (x, a) => (x, { s with at_ := a })
  | .error (x, y) => ([], { s with err := x, fat := y })
def TxP (w0 : World) (len : Nat) (R : Except (Int × Int) (List Int × Nat)) (ok : List Int → Nat → List Res) (er : Nat → List Res) (e : Ending) (w' : World) : Prop :=
  match R with
  | .ok (n, a) => e = .returned (.tuple #[]) ∧ a ≤ len ∧ Hp w0 w' (ok n a)
  | .error (x, y) => e = gonE x y ∧ ∃ a' : Nat, Hp w0 w' (er a')
theorem numP_low {b : List Int} {a : Nat} {low high above n : Int} {a' : Nat} (h : numP b a low high above = .ok (n, a')) : low ≤ n ∧ n ≤ high := by
  unfold numP at h
  cases hs : scanN b a 9 0 a 0 with
  | error e => rw [hs] at h; simp at h
  | ok p =>
    obtain ⟨n2, a2⟩ := p
    rw [hs] at h
    simp only at h
    split at h
    · simp at h
    · split at h
      · simp at h
      · simp at h; omega
theorem txtP_le {b : List Int} {a : Nat} {most : Int} {xs : List Int} {a' : Nat} (h : txtP b a most = .ok (xs, a')) : a' ≤ b.length := by
  unfold txtP at h
  cases hs : numP b a 0 most 3 with
  | error e => rw [hs] at h; simp at h
  | ok p =>
    obtain ⟨n2, a2⟩ := p
    rw [hs] at h
    simp only at h
    split at h
    · simp at h
    · simp at h; omega
theorem run_op_string {w : World} {o : Oper} {a : Act} {x : Operand} {A : Option Addr} {n c : Nat} {xs : List Int} (ho : o.op = .convert 22 9 x) (hx : a.eval x = .slice A n c) (h : (Kd.int .u8).C w A n xs) : (execOp a.eval o).run Try.prog w = .ok (.value (.string (strOfNums xs))) w := by
  have h1 := Kd.C_string (P := Try.prog) (c := c) Try.underlying22 Try.underlying5 Try.underlying9 h
  unfold execOp
  simp only [ho, hx, Sem.run_bind, h1, Result.andThen_ok]
  rfl
set_option maxHeartbeats 8000000 in
set_option maxRecDepth 100000 in
theorem c_text1 {w0 w : World} {Rs : List Res} (t1 t2 t3 : Res) (g : Nat) (A : Option Addr) (c : Nat) (b : List Int) (fat : Int) (a : Nat) (hb : b.length ≤ 140737488355328) (hB : ∀ x ∈ b, 0 ≤ x ∧ x < 256) (hc : b.length ≤ c) (ha : a ≤ b.length) (most : Int) (hmost : most ≤ 140737488355328) (b3 b4 b7 : Nat)
    (HP : Hp w0 w (t1 :: t2 :: t3 :: .blk b7 (.cells #[.string (⟨#[]⟩)] 9 (0, 0)) :: .blk b4 (.cells #[.int .i64 most] 3 (0, 0)) :: .blk b3 (.cells #[.pointer (some ⟨g, 0, none⟩)] 57 (0, 0)) :: .blk g (.cells (rC (.slice A b.length c) 0 fat (a : Int)).toArray 93 (0, 0)) :: .row (Kd.int .u8) 5 w0.heap.size (.slice A b.length c) b :: Rs)) :
    Calls Try.prog 69 #[.pointer (some ⟨b3, 0, none⟩), .pointer (some ⟨b4, 0, none⟩), .pointer (some ⟨b7, 0, none⟩)] w fun e w' => TxP w0 b.length (txtP b a most) (fun xs a' => t1 :: t2 :: t3 :: .blk b7 (.cells #[.string (strOfNums xs)] 9 (0, 0)) :: .blk b4 (.cells #[.int .i64 most] 3 (0, 0)) :: .blk b3 (.cells #[.pointer (some ⟨g, 0, none⟩)] 57 (0, 0)) :: .blk g (.cells (rC (.slice A b.length c) 0 fat (a' : Int)).toArray 93 (0, 0)) :: .row (Kd.int .u8) 5 w0.heap.size (.slice A b.length c) b :: Rs) (fun a' => t1 :: t2 :: t3 :: .blk b7 (.cells #[.string (⟨#[]⟩)] 9 (0, 0)) :: .blk b4 (.cells #[.int .i64 most] 3 (0, 0)) :: .blk b3 (.cells #[.pointer (some ⟨g, 0, none⟩)] 57 (0, 0)) :: .blk g (.cells (rC (.slice A b.length c) 0 fat (a' : Int)).toArray 93 (0, 0)) :: .row (Kd.int .u8) 5 w0.heap.size (.slice A b.length c) b :: Rs) e w' := by
  have HPn := Aside0.mk HP
  clear HP
  have HP := HPn
  clear HPn
  have HB := Aside0.mk (And.intro hb (And.intro hB (And.intro hc ha)))
  clear hb hB hc ha
  cases hr : numP b a 0 most 3 with
  | error p =>
    obtain ⟨x, y⟩ := p
    have HR := Aside0.mk hr
    clear hr hmost
    go_enter Try.func69, Try.ntmps69
    go_wp2_with fail
    refine held_named (S := (fun w' => w'.cell? ⟨b4, 0, none⟩ = some (.int .i64 most) ∧ w'.cell? ⟨b3, 0, none⟩ = some (.pointer (some ⟨g, 0, none⟩)))) (by kernel_rfl) (fun wd0 hwd0 => ?_)
    have HPn := Aside0.mk (HP.out.drewN 1)
    rw [← World.drew_is_drewN, hwd0] at HPn
    clear HP hwd0
    have HP := HPn
    clear HPn
    refine ⟨by (try dsimp only); exact ⟨blk_cell (HP.out.blk 4 rfl) 0, blk_cell (HP.out.blk 5 rfl) 0⟩, fun hHeld => ?_⟩
    refine wpAnyH_take (i := 0) (oi := ({ dst := (some 3), op := (Op.load 57 (Operand.tmp 0)), type := 57, pos := "word.go:154", after := #[], guard := none } : Oper)) (v := ?_) rfl (by kernel_rfl) (by kernel_rfl) (by kernel_rfl) (fun _ _ _ h => h) (Or.inl ⟨by rfl, ?_⟩) hHeld ?_
    rotate_left
    · intro w_ hSw; (try dsimp only at hSw); go_simp; try (with_reducible rfl)
    try simp only [Act.put, List.setIfInBounds_toArray, List.set_cons_zero, List.set_cons_succ]
    refine wpAnyH_take (i := 1) (oi := ({ dst := (some 4), op := (Op.load 57 (Operand.tmp 0)), type := 57, pos := "word.go:154", after := #[], guard := none } : Oper)) (v := ?_) rfl (by kernel_rfl) (by kernel_rfl) (by kernel_rfl) (fun _ _ _ h => h) (Or.inl ⟨by rfl, ?_⟩) hHeld ?_
    rotate_left
    · intro w_ hSw; (try dsimp only at hSw); go_simp; try (with_reducible rfl)
    try simp only [Act.put, List.setIfInBounds_toArray, List.set_cons_zero, List.set_cons_succ]
    refine wpAnyH_take (i := 2) (oi := ({ dst := (some 5), op := (Op.load 3 (Operand.tmp 1)), type := 3, pos := "word.go:154", after := #[], guard := none } : Oper)) (v := ?_) rfl (by kernel_rfl) (by kernel_rfl) (by kernel_rfl) (fun _ _ _ h => h) (Or.inl ⟨by rfl, ?_⟩) hHeld ?_
    rotate_left
    · intro w_ hSw; (try dsimp only at hSw); go_simp; try (with_reducible rfl)
    try simp only [Act.put, List.setIfInBounds_toArray, List.set_cons_zero, List.set_cons_succ]
    refine wpAnyH_ready (rs := [3]) (by kernel_rfl) (by simp) ?_
    refine AllReadyH.cons (o := ({ dst := (some 6), op := (Op.call { callee := (Callee.value (Operand.func 66)), args := #[(Operand.tmp 4), (Operand.const (Value.int IntKind.i64 0)), (Operand.tmp 5), (Operand.const (Value.int IntKind.i64 3))], argTypes := #[57, 3, 3, 28] }), type := 3, pos := "word.go:154", after := #[{ on := 1, ground := Ground.data }, { on := 2, ground := Ground.data }], guard := none } : Oper)) rfl (fun K hK => ?_) AllReadyH.nil
    go_simp
    refine (c_number HP.out 6 g A c b 0 fat a rfl HB.out.1 HB.out.2.1 HB.out.2.2.1 HB.out.2.2.2 (Rd.row (c := c) 7 (by decide) rfl) 0 most 3).mono ?_; rintro e w1 hpost; unfold NumPost at hpost; rw [HR.out] at hpost; obtain ⟨rfl, a', hpn⟩ := hpost; go_wp2_with fail; refine ⟨rfl, ?_⟩; unfold TxP txtP; rw [HR.out]; exact ⟨rfl, a', hpn⟩
  | ok p =>
    obtain ⟨n, a'⟩ := p
    have HR := Aside0.mk hr
    have hlo := numP_low hr
    obtain ⟨m, hm⟩ : ∃ m : Nat, (m : Int) = n := ⟨n.toNat, by omega⟩
    have HMN := Aside0.mk hm
    have HMT := Aside0.mk (show n.toNat = m by omega)
    have HM2 := Aside0.mk (show m ≤ 140737488355328 by omega)
    by_cases hlt : b.length < a' + m
    · have HLT := Aside0.mk hlt
      have HLT2 := Aside0.mk (show b.length < a' + n.toNat by rw [HMT.out]; exact hlt)
      clear hr hmost hlo hm hlt
      go_enter Try.func69, Try.ntmps69
      go_wp2_with fail
      refine held_named (S := (fun w' => w'.cell? ⟨b4, 0, none⟩ = some (.int .i64 most) ∧ w'.cell? ⟨b3, 0, none⟩ = some (.pointer (some ⟨g, 0, none⟩)))) (by kernel_rfl) (fun wd0 hwd0 => ?_)
      have HPn := Aside0.mk (HP.out.drewN 1)
      rw [← World.drew_is_drewN, hwd0] at HPn
      clear HP hwd0
      have HP := HPn
      clear HPn
      refine ⟨by (try dsimp only); exact ⟨blk_cell (HP.out.blk 4 rfl) 0, blk_cell (HP.out.blk 5 rfl) 0⟩, fun hHeld => ?_⟩
      refine wpAnyH_take (i := 0) (oi := ({ dst := (some 3), op := (Op.load 57 (Operand.tmp 0)), type := 57, pos := "word.go:154", after := #[], guard := none } : Oper)) (v := ?_) rfl (by kernel_rfl) (by kernel_rfl) (by kernel_rfl) (fun _ _ _ h => h) (Or.inl ⟨by rfl, ?_⟩) hHeld ?_
      rotate_left
      · intro w_ hSw; (try dsimp only at hSw); go_simp; try (with_reducible rfl)
      try simp only [Act.put, List.setIfInBounds_toArray, List.set_cons_zero, List.set_cons_succ]
      refine wpAnyH_take (i := 1) (oi := ({ dst := (some 4), op := (Op.load 57 (Operand.tmp 0)), type := 57, pos := "word.go:154", after := #[], guard := none } : Oper)) (v := ?_) rfl (by kernel_rfl) (by kernel_rfl) (by kernel_rfl) (fun _ _ _ h => h) (Or.inl ⟨by rfl, ?_⟩) hHeld ?_
      rotate_left
      · intro w_ hSw; (try dsimp only at hSw); go_simp; try (with_reducible rfl)
      try simp only [Act.put, List.setIfInBounds_toArray, List.set_cons_zero, List.set_cons_succ]
      refine wpAnyH_take (i := 2) (oi := ({ dst := (some 5), op := (Op.load 3 (Operand.tmp 1)), type := 3, pos := "word.go:154", after := #[], guard := none } : Oper)) (v := ?_) rfl (by kernel_rfl) (by kernel_rfl) (by kernel_rfl) (fun _ _ _ h => h) (Or.inl ⟨by rfl, ?_⟩) hHeld ?_
      rotate_left
      · intro w_ hSw; (try dsimp only at hSw); go_simp; try (with_reducible rfl)
      try simp only [Act.put, List.setIfInBounds_toArray, List.set_cons_zero, List.set_cons_succ]
      refine wpAnyH_ready (rs := [3]) (by kernel_rfl) (by simp) ?_
      refine AllReadyH.cons (o := ({ dst := (some 6), op := (Op.call { callee := (Callee.value (Operand.func 66)), args := #[(Operand.tmp 4), (Operand.const (Value.int IntKind.i64 0)), (Operand.tmp 5), (Operand.const (Value.int IntKind.i64 3))], argTypes := #[57, 3, 3, 28] }), type := 3, pos := "word.go:154", after := #[{ on := 1, ground := Ground.data }, { on := 2, ground := Ground.data }], guard := none } : Oper)) rfl (fun K hK => ?_) AllReadyH.nil
      go_simp
      refine (c_number HP.out 6 g A c b 0 fat a rfl HB.out.1 HB.out.2.1 HB.out.2.2.1 HB.out.2.2.2 (Rd.row (c := c) 7 (by decide) rfl) 0 most 3).mono ?_; rintro e w1 hpost; unfold NumPost at hpost; rw [HR.out] at hpost; obtain ⟨rfl, hal, hpn⟩ := hpost; clear HP; have HP := Aside0.mk hpn; have HAL := Aside0.mk hal; clear hpn hal
      go_wp2_with fail
      clear hHeld
      refine hK.out _ _ ?_ (fun hHeld => ?_)
      · (try dsimp only); exact ⟨blk_cell (HP.out.blk 4 rfl) 0, blk_cell (HP.out.blk 5 rfl) 0⟩
      clear hK K
      try simp only [Act.put, List.setIfInBounds_toArray, List.set_cons_zero, List.set_cons_succ]
      refine wpAnyH_ready (rs := [4]) (by kernel_rfl) (by simp) ?_
      refine AllReadyH.cons (o := ({ dst := (some 7), op := (Op.call { callee := (Callee.value (Operand.func 70)), args := #[(Operand.tmp 3), (Operand.tmp 6)], argTypes := #[57, 3] }), type := 22, pos := "word.go:154", after := #[{ on := 0, ground := Ground.data }, { on := 3, ground := Ground.data }, { on := 3, ground := Ground.chain }], guard := none } : Oper)) rfl (fun K hK => ?_) AllReadyH.nil
      go_simp
      have CS := Aside0.mk (c_someE HP.out 6 g A c b 0 fat a' m rfl HB.out.1 HAL.out HLT.out HM2.out); rw [HMN.out] at CS; refine CS.out.mono ?_; rintro e w2 ⟨rfl, hpn⟩; go_wp2_with fail; refine ⟨rfl, ?_⟩; unfold TxP txtP; rw [HR.out]; simp only; rw [if_pos HLT2.out]; exact ⟨rfl, a', hpn⟩
    · have HLE := Aside0.mk (show a' + m ≤ b.length by omega)
      have HLE2 := Aside0.mk (show ¬ (b.length < a' + n.toNat) by rw [HMT.out]; exact hlt)
      clear hr hmost hlo hm hlt
      go_enter Try.func69, Try.ntmps69
      go_wp2_with fail
      refine held_named (S := (fun w' => w'.cell? ⟨b4, 0, none⟩ = some (.int .i64 most) ∧ w'.cell? ⟨b3, 0, none⟩ = some (.pointer (some ⟨g, 0, none⟩)))) (by kernel_rfl) (fun wd0 hwd0 => ?_)
      have HPn := Aside0.mk (HP.out.drewN 1)
      rw [← World.drew_is_drewN, hwd0] at HPn
      clear HP hwd0
      have HP := HPn
      clear HPn
      refine ⟨by (try dsimp only); exact ⟨blk_cell (HP.out.blk 4 rfl) 0, blk_cell (HP.out.blk 5 rfl) 0⟩, fun hHeld => ?_⟩
      refine wpAnyH_take (i := 0) (oi := ({ dst := (some 3), op := (Op.load 57 (Operand.tmp 0)), type := 57, pos := "word.go:154", after := #[], guard := none } : Oper)) (v := ?_) rfl (by kernel_rfl) (by kernel_rfl) (by kernel_rfl) (fun _ _ _ h => h) (Or.inl ⟨by rfl, ?_⟩) hHeld ?_
      rotate_left
      · intro w_ hSw; (try dsimp only at hSw); go_simp; try (with_reducible rfl)
      try simp only [Act.put, List.setIfInBounds_toArray, List.set_cons_zero, List.set_cons_succ]
      refine wpAnyH_take (i := 1) (oi := ({ dst := (some 4), op := (Op.load 57 (Operand.tmp 0)), type := 57, pos := "word.go:154", after := #[], guard := none } : Oper)) (v := ?_) rfl (by kernel_rfl) (by kernel_rfl) (by kernel_rfl) (fun _ _ _ h => h) (Or.inl ⟨by rfl, ?_⟩) hHeld ?_
      rotate_left
      · intro w_ hSw; (try dsimp only at hSw); go_simp; try (with_reducible rfl)
      try simp only [Act.put, List.setIfInBounds_toArray, List.set_cons_zero, List.set_cons_succ]
      refine wpAnyH_take (i := 2) (oi := ({ dst := (some 5), op := (Op.load 3 (Operand.tmp 1)), type := 3, pos := "word.go:154", after := #[], guard := none } : Oper)) (v := ?_) rfl (by kernel_rfl) (by kernel_rfl) (by kernel_rfl) (fun _ _ _ h => h) (Or.inl ⟨by rfl, ?_⟩) hHeld ?_
      rotate_left
      · intro w_ hSw; (try dsimp only at hSw); go_simp; try (with_reducible rfl)
      try simp only [Act.put, List.setIfInBounds_toArray, List.set_cons_zero, List.set_cons_succ]
      refine wpAnyH_ready (rs := [3]) (by kernel_rfl) (by simp) ?_
      refine AllReadyH.cons (o := ({ dst := (some 6), op := (Op.call { callee := (Callee.value (Operand.func 66)), args := #[(Operand.tmp 4), (Operand.const (Value.int IntKind.i64 0)), (Operand.tmp 5), (Operand.const (Value.int IntKind.i64 3))], argTypes := #[57, 3, 3, 28] }), type := 3, pos := "word.go:154", after := #[{ on := 1, ground := Ground.data }, { on := 2, ground := Ground.data }], guard := none } : Oper)) rfl (fun K hK => ?_) AllReadyH.nil
      go_simp
      refine (c_number HP.out 6 g A c b 0 fat a rfl HB.out.1 HB.out.2.1 HB.out.2.2.1 HB.out.2.2.2 (Rd.row (c := c) 7 (by decide) rfl) 0 most 3).mono ?_; rintro e w1 hpost; unfold NumPost at hpost; rw [HR.out] at hpost; obtain ⟨rfl, hal, hpn⟩ := hpost; clear HP; have HP := Aside0.mk hpn; have HAL := Aside0.mk hal; clear hpn hal
      go_wp2_with fail
      clear hHeld
      refine hK.out _ _ ?_ (fun hHeld => ?_)
      · (try dsimp only); exact ⟨blk_cell (HP.out.blk 4 rfl) 0, blk_cell (HP.out.blk 5 rfl) 0⟩
      clear hK K
      try simp only [Act.put, List.setIfInBounds_toArray, List.set_cons_zero, List.set_cons_succ]
      refine wpAnyH_ready (rs := [4]) (by kernel_rfl) (by simp) ?_
      refine AllReadyH.cons (o := ({ dst := (some 7), op := (Op.call { callee := (Callee.value (Operand.func 70)), args := #[(Operand.tmp 3), (Operand.tmp 6)], argTypes := #[57, 3] }), type := 22, pos := "word.go:154", after := #[{ on := 0, ground := Ground.data }, { on := 3, ground := Ground.data }, { on := 3, ground := Ground.chain }], guard := none } : Oper)) rfl (fun K hK => ?_) AllReadyH.nil
      go_simp
      have CS := Aside0.mk (c_some HP.out 6 g A c b 0 fat a' m rfl HB.out.1 HB.out.2.2.1 HLE.out); rw [HMN.out] at CS; refine CS.out.mono ?_; rintro e w2 ⟨A', rfl, hC, hpn⟩; clear HP CS; have HP := Aside0.mk hpn; have HC := Aside0.mk hC; clear hpn hC
      go_wp2_with fail
      clear hHeld
      refine hK.out _ _ ?_ (fun hHeld => ?_)
      · (try dsimp only); exact ⟨blk_cell (HP.out.blk 4 rfl) 0, blk_cell (HP.out.blk 5 rfl) 0⟩
      clear hK K
      try simp only [Act.put, List.setIfInBounds_toArray, List.set_cons_zero, List.set_cons_succ]
      refine wpAnyH_ready (rs := [5]) (by kernel_rfl) (by simp) ?_
      refine AllReadyH.cons (o := ({ dst := (some 8), op := (Op.convert 22 9 (Operand.tmp 7)), type := 9, pos := "word.go:154", after := #[{ on := 4, ground := Ground.data }], guard := none } : Oper)) rfl (fun K hK => ?_) AllReadyH.nil
      refine st_run (by rfl) (run_op_string (x := .tmp 7) (by rfl) (by rfl) (HC.out _ (Kd.R_reads' (HP.out.row 7 rfl)).2.2)) ?_
      clear hHeld
      refine hK.out _ _ ?_ (fun hHeld => ?_)
      · (try dsimp only); exact ⟨blk_cell (HP.out.blk 4 rfl) 0, blk_cell (HP.out.blk 5 rfl) 0⟩
      clear hK K
      try simp only [Act.put, List.setIfInBounds_toArray, List.set_cons_zero, List.set_cons_succ]
      refine wpAnyH_ready (rs := [6]) (by kernel_rfl) (by simp) ?_
      refine AllReadyH.cons (o := ({ dst := none, op := (Op.store 9 (Operand.tmp 2) (Operand.tmp 8)), type := 0, pos := "word.go:154", after := #[{ on := 5, ground := Ground.data }, { on := 4, ground := Ground.chain }, { on := 0, ground := Ground.phase }, { on := 1, ground := Ground.phase }, { on := 2, ground := Ground.phase }, { on := 3, ground := Ground.phase }, { on := 4, ground := Ground.phase }, { on := 5, ground := Ground.phase }], guard := none } : Oper)) rfl (fun K hK => ?_) AllReadyH.nil
      have hc7 : w2.cell? ⟨b7, 0, none⟩ = some (.string ⟨#[]⟩) := blk_cell (HP.out.blk 3 rfl) 0; have hf7 := frozC (HP.out.blk 3 rfl) 0; go_simp; have HPn := Aside0.mk (HP.out.setCell 3 rfl 0 (.string (strOfNums ((b.take (a' + m)).drop a')))); clear HP hc7 hf7; have HP := HPn; clear HPn
      clear hHeld
      refine hK.out _ _ ?_ (fun hHeld => ?_)
      · (try dsimp only); exact ⟨blk_cell (HP.out.blk 4 rfl) 0, blk_cell (HP.out.blk 5 rfl) 0⟩
      clear hK K
      try simp only [Act.put, List.setIfInBounds_toArray, List.set_cons_zero, List.set_cons_succ]
      refine wpAnyH_done (by kernel_rfl) ?_ _
      go_wp2_with fail
      refine bodyPost_end (v := .tuple #[]) (by simp [results, Try.results69, go_sem]) rfl ?_
      unfold TxP txtP
      rw [HR.out]
      simp only
      rw [if_neg HLE2.out, HMT.out]
      exact ⟨by first | rfl | trivial, HLE.out, HP.out⟩
set_option maxHeartbeats 8000000 in
set_option maxRecDepth 100000 in
theorem c_rtext {w0 w : World} {Rs : List Res} (HP : Hp w0 w Rs) (i g : Nat) (b : List Int) (s : RS) (hi : Rs[i]? = some (rReader w0.heap.size g b s)) (most : Int) (hmost : most ≤ 140737488355328) :
    Calls Try.prog 34 #[.pointer (some ⟨g, 0, none⟩), .int .i64 most] w fun e w' => e = .returned (.string (strOfNums (rTxt b s most).1)) ∧ Hp w0 w' (Rs.set i (rReader w0.heap.size g b (rTxt b s most).2)) := by
  have HMO := Aside0.mk hmost
  clear hmost
  have HSELF := Aside0.mk (show Rs.set i (rReader w0.heap.size g b s) = Rs from set_self hi)
  obtain ⟨v, hm, HP0⟩ := HP.openE i hi
  have HP1 : Hp w0 w (.blk g (.cells (rC v s.err s.fat (s.at_ : Int)).toArray 93 (0, 0)) :: .row (Kd.int .u8) 5 w0.heap.size v b :: Rs.set i .none) := HP0
  have hil : i < Rs.length := (List.getElem?_eq_some_iff.1 hi).1
  have hm2 : s.at_ ≤ b.length ∧ b.length ≤ 140737488355328 ∧ ∀ x ∈ b, 0 ≤ x ∧ x < 256 := hm
  have HPn := Aside0.mk HP1
  have HM := Aside0.mk hm2
  have HI := Aside0.mk hil
  clear HP HP0 HP1 hm hm2 hil hi
  have HP := HPn
  clear HPn
  obtain ⟨A, c, rfl⟩ := Kd.R_slice (HP.out.row 1 rfl)
  have HC := Aside0.mk (Kd.R_reads' (HP.out.row 1 rfl)).2.1
  have hmf : ∀ (fn : Fn) (first cap : Array Value) (w : World), (Instr.makeFunc fn first cap).run Try.prog w = .ok (.func fn first cap) w := fun fn first cap w => by simp [Instr.makeFunc]
  have HEN := Aside0.mk (fun w (b3 b4 b7 : Nat) => enters_fn (P := Try.prog) Try.func69 (by kernel_rfl) rfl #[.pointer (some ⟨b3, 0, none⟩), .pointer (some ⟨b4, 0, none⟩), .pointer (some ⟨b7, 0, none⟩)] w)
  unfold rTxt
  by_cases he : s.err = 0
  · rw [if_neg (by rw [he]; decide)]
    rw [he] at HP
    cases hr : txtP b s.at_ most with
    | error p =>
      obtain ⟨x, y⟩ := p
      have HRR := Aside0.mk hr
      clear hr
      go_enter Try.func34, Try.ntmps34
      go_wp2_with (first | ((with_reducible refine gate_dst (N := 2) rfl ?_); refine ev_boxv rfl 57 (.tmp 0) rfl (.pointer (some ⟨g, 0, none⟩)) rfl rfl ?_; intro b3 wb0 hge hg hb; have HPn := Aside0.mk (HP.out.newB hb hg hge); clear HP; have HP := HPn; clear HPn; clear hge hg hb) | ((with_reducible refine gate_dst (N := 3) rfl ?_); refine ev_boxv rfl 3 (.tmp 1) rfl (.int .i64 most) rfl rfl ?_; intro b4 wb1 hge hg hb; have HPn := Aside0.mk (HP.out.newB hb hg hge); clear HP; have HP := HPn; clear HPn; clear hge hg hb; have hq0 : (wb1.alloc (.cells #[.string ⟨#[]⟩] 9)).cell? ⟨b3, 0, none⟩ = some (.pointer (some ⟨g, 0, none⟩)) := blk_cell ((HP.out.alloc (.cells #[.string ⟨#[]⟩] 9 (0, 0))).blk 2 rfl) 0; have hq1 : (wb1.alloc (.cells #[.string ⟨#[]⟩] 9)).cell? ⟨b4, 0, none⟩ = some (.int .i64 most) := blk_cell ((HP.out.alloc (.cells #[.string ⟨#[]⟩] 9 (0, 0))).blk 1 rfl) 0))
      have HPn := Aside0.mk (HP.out.alloc (.cells #[.string ⟨#[]⟩] 9 (0, 0)))
      clear HP hq0 hq1
      obtain ⟨b7, hb7⟩ : ∃ z, wb1.heap.size = z := ⟨_, rfl⟩
      obtain ⟨wv, hwv⟩ : ∃ z, wb1.alloc (.cells #[.string ⟨#[]⟩] 9) = z := ⟨_, rfl⟩
      rw [show wb1.alloc (.cells #[.string ⟨#[]⟩] 9 (0, 0)) = wv from hwv, hb7] at HPn
      rw [hwv, hb7]
      clear hwv hb7
      have HP := HPn
      clear HPn
      have CT := Aside0.mk (c_tryB HP.out 3 g (.slice A b.length c) s.fat (s.at_ : Int) rfl 69 #[.pointer (some ⟨b3, 0, none⟩), .pointer (some ⟨b4, 0, none⟩), .pointer (some ⟨b7, 0, none⟩)] (fun w => HEN.out w b3 b4 b7) (fun R => ∃ a' : Nat, R = (.blk b7 (.cells #[.string (⟨#[]⟩)] 9 (0, 0)) :: .blk b4 (.cells #[.int .i64 most] 3 (0, 0)) :: .blk b3 (.cells #[.pointer (some ⟨g, 0, none⟩)] 57 (0, 0)) :: .blk g (.cells (rC (.slice A b.length c) 0 s.fat (a' : Int)).toArray 93 (0, 0)) :: .row (Kd.int .u8) 5 w0.heap.size (.slice A b.length c) b :: Rs.set i .none)) x y (fun t1 t2 t3 w1 h => (c_text1 (.blk t1 _) (.blk t2 _) (.blk t3 _) g A c b s.fat s.at_ HM.out.2.1 HM.out.2.2 HC.out HM.out.1 most HMO.out b3 b4 b7 h).mono fun e w' h9 => by
        unfold TxP at h9
        rw [HRR.out] at h9
        obtain ⟨h1, a', h2⟩ := h9
        exact ⟨h1, _, _, ⟨a', rfl⟩, rfl, h2⟩))
      refine CT.out.mono ?_; rintro e w2 ⟨rfl, Rs2, ⟨a', rfl⟩, hpn⟩
      clear CT HP
      go_wp2_with fail
      go_ret
      exact ⟨rfl, Hp.closeR { s with err := x, fat := y } HM.out HI.out (hpn.drop1.drop1.drop1)⟩
    | ok p =>
      obtain ⟨xs, a'⟩ := p
      have HRR := Aside0.mk hr
      have HAA := Aside0.mk (txtP_le hr)
      clear hr
      go_enter Try.func34, Try.ntmps34
      go_wp2_with (first | ((with_reducible refine gate_dst (N := 2) rfl ?_); refine ev_boxv rfl 57 (.tmp 0) rfl (.pointer (some ⟨g, 0, none⟩)) rfl rfl ?_; intro b3 wb0 hge hg hb; have HPn := Aside0.mk (HP.out.newB hb hg hge); clear HP; have HP := HPn; clear HPn; clear hge hg hb) | ((with_reducible refine gate_dst (N := 3) rfl ?_); refine ev_boxv rfl 3 (.tmp 1) rfl (.int .i64 most) rfl rfl ?_; intro b4 wb1 hge hg hb; have HPn := Aside0.mk (HP.out.newB hb hg hge); clear HP; have HP := HPn; clear HPn; clear hge hg hb; have hq0 : (wb1.alloc (.cells #[.string ⟨#[]⟩] 9)).cell? ⟨b3, 0, none⟩ = some (.pointer (some ⟨g, 0, none⟩)) := blk_cell ((HP.out.alloc (.cells #[.string ⟨#[]⟩] 9 (0, 0))).blk 2 rfl) 0; have hq1 : (wb1.alloc (.cells #[.string ⟨#[]⟩] 9)).cell? ⟨b4, 0, none⟩ = some (.int .i64 most) := blk_cell ((HP.out.alloc (.cells #[.string ⟨#[]⟩] 9 (0, 0))).blk 1 rfl) 0))
      have HPn := Aside0.mk (HP.out.alloc (.cells #[.string ⟨#[]⟩] 9 (0, 0)))
      clear HP hq0 hq1
      obtain ⟨b7, hb7⟩ : ∃ z, wb1.heap.size = z := ⟨_, rfl⟩
      obtain ⟨wv, hwv⟩ : ∃ z, wb1.alloc (.cells #[.string ⟨#[]⟩] 9) = z := ⟨_, rfl⟩
      rw [show wb1.alloc (.cells #[.string ⟨#[]⟩] 9 (0, 0)) = wv from hwv, hb7] at HPn
      rw [hwv, hb7]
      clear hwv hb7
      have HP := HPn
      clear HPn
      have CT := Aside0.mk (c_tryA HP.out 3 g (.slice A b.length c) s.fat (s.at_ : Int) rfl 69 #[.pointer (some ⟨b3, 0, none⟩), .pointer (some ⟨b4, 0, none⟩), .pointer (some ⟨b7, 0, none⟩)] (fun w => HEN.out w b3 b4 b7) (.blk b7 (.cells #[.string (strOfNums xs)] 9 (0, 0)) :: .blk b4 (.cells #[.int .i64 most] 3 (0, 0)) :: .blk b3 (.cells #[.pointer (some ⟨g, 0, none⟩)] 57 (0, 0)) :: .blk g (.cells (rC (.slice A b.length c) 0 s.fat (a' : Int)).toArray 93 (0, 0)) :: .row (Kd.int .u8) 5 w0.heap.size (.slice A b.length c) b :: Rs.set i .none) (fun t1 t2 t3 w1 h => (c_text1 (.blk t1 _) (.blk t2 _) (.blk t3 _) g A c b s.fat s.at_ HM.out.2.1 HM.out.2.2 HC.out HM.out.1 most HMO.out b3 b4 b7 h).mono fun e w' h9 => by
        unfold TxP at h9
        rw [HRR.out] at h9
        exact ⟨h9.1, h9.2.2⟩))
      refine CT.out.mono ?_; rintro e w2 ⟨rfl, hpn⟩
      clear CT HP
      have HP := Aside0.mk hpn
      clear hpn
      have h7 : w2.cell? ⟨b7, 0, none⟩ = some (.string (strOfNums xs)) := blk_cell (HP.out.blk 0 rfl) 0
      go_wp2_with fail
      go_ret
      exact ⟨rfl, Hp.closeR { s with at_ := a' } ⟨HAA.out, HM.out.2⟩ HI.out (by have h := HP.out.drop1.drop1.drop1; rw [← he] at h; exact h)⟩
  · rw [if_pos he]
    go_enter Try.func34, Try.ntmps34
    go_wp2_with (first | ((with_reducible refine gate_dst (N := 2) rfl ?_); refine ev_boxv rfl 57 (.tmp 0) rfl (.pointer (some ⟨g, 0, none⟩)) rfl rfl ?_; intro b3 wb0 hge hg hb; have HPn := Aside0.mk (HP.out.newB hb hg hge); clear HP; have HP := HPn; clear HPn; clear hge hg hb) | ((with_reducible refine gate_dst (N := 3) rfl ?_); refine ev_boxv rfl 3 (.tmp 1) rfl (.int .i64 most) rfl rfl ?_; intro b4 wb1 hge hg hb; have HPn := Aside0.mk (HP.out.newB hb hg hge); clear HP; have HP := HPn; clear HPn; clear hge hg hb; have hq0 : (wb1.alloc (.cells #[.string ⟨#[]⟩] 9)).cell? ⟨b3, 0, none⟩ = some (.pointer (some ⟨g, 0, none⟩)) := blk_cell ((HP.out.alloc (.cells #[.string ⟨#[]⟩] 9 (0, 0))).blk 2 rfl) 0; have hq1 : (wb1.alloc (.cells #[.string ⟨#[]⟩] 9)).cell? ⟨b4, 0, none⟩ = some (.int .i64 most) := blk_cell ((HP.out.alloc (.cells #[.string ⟨#[]⟩] 9 (0, 0))).blk 1 rfl) 0))
    have HPn := Aside0.mk (HP.out.alloc (.cells #[.string ⟨#[]⟩] 9 (0, 0)))
    clear HP hq0 hq1
    obtain ⟨b7, hb7⟩ : ∃ z, wb1.heap.size = z := ⟨_, rfl⟩
    obtain ⟨wv, hwv⟩ : ∃ z, wb1.alloc (.cells #[.string ⟨#[]⟩] 9) = z := ⟨_, rfl⟩
    rw [show wb1.alloc (.cells #[.string ⟨#[]⟩] 9 (0, 0)) = wv from hwv, hb7] at HPn
    rw [hwv, hb7]
    clear hwv hb7
    have HP := HPn
    clear HPn
    refine (c_tryN HP.out 3 g (.slice A b.length c) s.err s.fat (s.at_ : Int) rfl he _).mono ?_; rintro e w2 ⟨rfl, hpn⟩
    clear HP
    go_wp2_with fail
    go_ret
    exact ⟨rfl, Hp.closeR s HM.out HI.out (hpn.drop1.drop1.drop1)⟩
end Go.Proofs.Ytlgnfbgjdkbfoaa.Wd
namespace Go.Proofs.Ytlgnfbgjdkbfoaa.Wd
open Go.RowKit Go.Proofs.YtlgnfbgjdkbfoaaW.PrintWords Go.Proofs.YtlgnfbgjdkbfoaaW.PrintLast Go.Proofs.YtlgnfbgjdkbfoaaW.PrintMore Go.Proofs.YtlgnfbgjdkbfoaaXe Go.Proofs.YtlgnfbgjdkbfoaaXs
set_option linter.unusedVariables false
set_option linter.unusedSimpArgs false
attribute [local go_sem ↓] Go.wp_at_zero Go.wp_at_succ
def rs0 : RS := ⟨0, 0, 0⟩
theorem info8 : (Try.prog.info? 5).map (fun i => (i.zero, i.size, i.bytes)) = some (some (.int .u8 0), 1, 1) := by kernel_rfl
def rLeft (b : List Int) (s : RS) : Int := (b.length : Int) - (s.at_ : Int)
def rEnd (b : List Int) (s : RS) : Int × Int := if s.err = 0 ∧ s.at_ < b.length then (4, (s.at_ : Int)) else (s.err, s.fat)
theorem results_cell2 {P : Program} {fn : Func} {a t : Nat} (h : fn.results = #[.cell a t]) (tmps : Array Value) (w : World) {v : Value} {ad : Addr} (ha : tmps.getD a undef = .pointer (some ad)) (hl : (loadVar t ad).run P w = .ok v w) : (results fn tmps).run P w = .ok v w := by
  have ha' : tmps[a]?.getD undef = .pointer (some ad) := by simpa using ha
  simp [results, h, ha', asAddr, hl, Result.andThen]
theorem load_fault {w0 w : World} {Rs : List Res} (HP : Hp w0 w Rs) (j : Nat) {gf : Nat} {x y : Int} (hj : Rs[j]? = some (.blk gf (.cells #[.int .i64 x, .int .i64 y] 30 (0, 0)))) : (loadVar 30 ⟨gf, 0, none⟩).run Try.prog w = .ok (.agg #[.int .i64 x, .int .i64 y]) w := by
  have hg := HP.blk j hj
  have hrg : w.rangeAt gf 0 [.int .i64 x, .int .i64 y] := fun k u hk => by
    rw [cell_of_row w gf _ _ _ _ hg, Nat.zero_add]
    simpa using hk
  exact run_loadVar_mid _ gf 0 30 _ _ hrg Try.underlying30 rfl (by kernel_rfl)
theorem cell_at {w0 w : World} {Rs : List Res} (HP : Hp w0 w Rs) (i : Nat) {g : Nat} {b : List Int} {s : RS} (hi : Rs[i]? = some (rReader w0.heap.size g b s)) : w.cell? ⟨g, 4, none⟩ = some (.int .i64 (s.at_ : Int)) := by
  obtain ⟨v, _, h⟩ := HP.openE i hi
  exact blk_cell (h.blk 0 rfl) 4
set_option maxHeartbeats 8000000 in
set_option maxRecDepth 100000 in
theorem c_open {w0 w : World} {Rs : List Res} (HP : Hp w0 w Rs) (A : Option Addr) (c : Nat) (b : List Int) (hb : b.length ≤ 140737488355328) (hB : ∀ x ∈ b, 0 ≤ x ∧ x < 256) (hR : ∀ w', Hp w0 w' Rs → Kd.C (Kd.int .u8) w' A b.length b) :
    Calls Try.prog 30 #[.slice A b.length c] w fun e w' => ∃ g, e = .returned (.pointer (some ⟨g, 0, none⟩)) ∧ Hp w0 w' (rReader w0.heap.size g b rs0 :: Rs) := by
  have HPn := Aside0.mk HP
  clear HP
  have HP := HPn
  clear HPn
  have HB := Aside0.mk hb
  have HBY := Aside0.mk hB
  have HR := Aside0.mk hR
  clear hb hB hR
  go_enter Try.func30, Try.ntmps30
  go_wp2_with (first | ((with_reducible refine gate_dst (N := 3) rfl ?_); refine ev_lit (d := Kd.int .u8) HP.out 5 rfl (xs := ([] : List Int)) (inner := []) (N := 3) rfl ?hr3 (Reps.none _ _) (by first | decide | simp) ?_; (case hr3 => first | (go_simp; done) | (go_simp; rfl)); intro v_r0 wq hpn; clear HP; have HP := Aside0.mk hpn; clear hpn; obtain ⟨A_r0, c_r0, rfl⟩ := Kd.R_slice (HP.out.row 0 rfl)) | ((with_reducible refine gate_dst (N := 5) rfl ?_); refine ev_append (plain_int .u8) HP.out 0 rfl (.tmp 3) (.tmp 4) 22 5 (.int .u8 0) 1 rfl Try.underlying22 info8 rfl (by decide) (by decide) (.slice A_r0 0 c_r0) [] b A b.length c rfl rfl rfl (HR.out _ (HP.out.drop1)) (by have := HB.out; simp; omega) ?_; intro v_r1 wq hpn; clear HP; have HP := Aside0.mk hpn; clear hpn; obtain ⟨A_r1, c_r1, rfl⟩ := Kd.R_slice (HP.out.row 0 rfl)))
  have HPn := Aside0.mk (HP.out.alloc (.cells (rC (.slice A_r1 ([] ++ b).length c_r1) 0 0 0).toArray 93 (0, 0)))
  go_ret
  have h9 : Hp w0 (wq.alloc (.cells (rC (.slice A_r1 b.length c_r1) 0 0 0).toArray 93 (0, 0))) (rdrL w0.heap.size wq.heap.size b rs0 (.slice A_r1 b.length c_r1) ++ Rs) := HPn.out
  exact ⟨wq.heap.size, rfl, Hp.closeE0 (p := rdrP b rs0) (rdrL w0.heap.size wq.heap.size b rs0) (.slice A_r1 b.length c_r1) ⟨Nat.zero_le _, HB.out, HBY.out⟩ h9⟩
set_option maxHeartbeats 8000000 in
set_option maxRecDepth 100000 in
theorem c_fault {w0 w : World} {Rs : List Res} (HP : Hp w0 w Rs) (i g : Nat) (b : List Int) (s : RS) (hi : Rs[i]? = some (rReader w0.heap.size g b s)) :
    Calls Try.prog 33 #[.pointer (some ⟨g, 0, none⟩)] w fun e w' => e = .returned (.agg #[.int .i64 s.err, .int .i64 s.fat]) ∧ Hp w0 w' Rs := by
  have HSELF := Aside0.mk (show Rs.set i (rReader w0.heap.size g b s) = Rs from set_self hi)
  obtain ⟨v, hm, HP0⟩ := HP.openE i hi
  have HP1 : Hp w0 w (.blk g (.cells (rC v s.err s.fat (s.at_ : Int)).toArray 93 (0, 0)) :: .row (Kd.int .u8) 5 w0.heap.size v b :: Rs.set i .none) := HP0
  have hil : i < Rs.length := (List.getElem?_eq_some_iff.1 hi).1
  have hm2 : s.at_ ≤ b.length ∧ b.length ≤ 140737488355328 ∧ ∀ x ∈ b, 0 ≤ x ∧ x < 256 := hm
  have HPn := Aside0.mk HP1
  have HM := Aside0.mk hm2
  have HI := Aside0.mk hil
  clear HP HP0 HP1 hm hm2 hil hi
  have HP := HPn
  clear HPn
  obtain ⟨A, c, rfl⟩ := Kd.R_slice (HP.out.row 1 rfl)
  have HC := Aside0.mk (Kd.R_reads' (HP.out.row 1 rfl)).2.1
  have HS := Aside0.mk (fun w1 (h : Hp w0 w1 (.blk g (.cells (rC (.slice A b.length c) s.err s.fat (s.at_ : Int)).toArray 93 (0, 0)) :: .row (Kd.int .u8) 5 w0.heap.size (.slice A b.length c) b :: Rs.set i .none)) => (show Hp w0 w1 Rs by rw [← HSELF.out]; exact Hp.closeR s HM.out HI.out h))
  have HN := Aside0.mk (fun w1 hg => c_noneB g (.slice A b.length c) s.err s.fat (s.at_ : Int) w1 hg)
  go_enter Try.func33, Try.ntmps33
  go_wp2_with (first | ((with_reducible refine gate_dst (N := 2) rfl ?_); refine ev_alloc rfl 30 rfl (.agg #[.int .i64 0, .int .i64 0]) (by kernel_rfl) ?_; intro gf wa hge hg hb; have HPn := Aside0.mk (HP.out.newB hb hg hge); clear HP; have HP := HPn; clear HPn; clear hge hg hb))
  refine (HN.out _ (HP.out.blk 1 rfl)).mono ?_; rintro e wb ⟨rfl, rfl⟩
  have h2 : wb.cell? ⟨g, 2, none⟩ = some (.int .i64 s.err) := blk_cell (HP.out.blk 1 rfl) 2
  have h3 : wb.cell? ⟨g, 3, none⟩ = some (.int .i64 s.fat) := blk_cell (HP.out.blk 1 rfl) 3
  have k0 : wb.cell? ⟨gf, 0, none⟩ = some (.int .i64 0) := blk_cell (HP.out.blk 0 rfl) 0
  have k1 : wb.cell? ⟨gf, 1, none⟩ = some (.int .i64 0) := blk_cell (HP.out.blk 0 rfl) 1
  have f0 := frozC (HP.out.blk 0 rfl) 0
  have f1 := frozC (HP.out.blk 0 rfl) 1
  have HP9 := Aside0.mk ((HP.out.setCell 0 rfl 0 (.int .i64 s.err)).setCell 0 rfl 1 (.int .i64 s.fat))
  go_wp2_with fail
  have q0 := blk_cell (HP9.out.blk 0 rfl) 0
  have q1 := blk_cell (HP9.out.blk 0 rfl) 1
  refine bodyPost_ret (v := .agg #[.int .i64 s.err, .int .i64 s.fat]) ?_ rfl ⟨rfl, HS.out _ HP9.out.drop1⟩
  have hrg : ((wb.setCell ⟨gf, 0, none⟩ (.int .i64 s.err)).setCell ⟨gf, 1, none⟩ (.int .i64 s.fat)).rangeAt gf 0 [.int .i64 s.err, .int .i64 s.fat] := fun j u hj => by
    match j with
    | 0 => simp at hj; subst hj; exact q0
    | 1 => simp at hj; subst hj; exact q1
    | j + 2 => simp at hj
  exact results_cell2 rfl _ _ (by rfl) (run_loadVar_mid _ gf 0 30 _ _ hrg Try.underlying30 rfl (by kernel_rfl))
set_option maxHeartbeats 8000000 in
set_option maxRecDepth 100000 in
theorem c_left {w0 w : World} {Rs : List Res} (HP : Hp w0 w Rs) (i g : Nat) (b : List Int) (s : RS) (hi : Rs[i]? = some (rReader w0.heap.size g b s)) :
    Calls Try.prog 72 #[.pointer (some ⟨g, 0, none⟩)] w fun e w' => e = .returned (.int .i64 (rLeft b s)) ∧ Hp w0 w' Rs := by
  have HSELF := Aside0.mk (show Rs.set i (rReader w0.heap.size g b s) = Rs from set_self hi)
  obtain ⟨v, hm, HP0⟩ := HP.openE i hi
  have HP1 : Hp w0 w (.blk g (.cells (rC v s.err s.fat (s.at_ : Int)).toArray 93 (0, 0)) :: .row (Kd.int .u8) 5 w0.heap.size v b :: Rs.set i .none) := HP0
  have hil : i < Rs.length := (List.getElem?_eq_some_iff.1 hi).1
  have hm2 : s.at_ ≤ b.length ∧ b.length ≤ 140737488355328 ∧ ∀ x ∈ b, 0 ≤ x ∧ x < 256 := hm
  have HPn := Aside0.mk HP1
  have HM := Aside0.mk hm2
  have HI := Aside0.mk hil
  clear HP HP0 HP1 hm hm2 hil hi
  have HP := HPn
  clear HPn
  obtain ⟨A, c, rfl⟩ := Kd.R_slice (HP.out.row 1 rfl)
  have HC := Aside0.mk (Kd.R_reads' (HP.out.row 1 rfl)).2.1
  have HS := Aside0.mk (fun w1 (h : Hp w0 w1 (.blk g (.cells (rC (.slice A b.length c) s.err s.fat (s.at_ : Int)).toArray 93 (0, 0)) :: .row (Kd.int .u8) 5 w0.heap.size (.slice A b.length c) b :: Rs.set i .none)) => (show Hp w0 w1 Rs by rw [← HSELF.out]; exact Hp.closeR s HM.out HI.out h))
  have HN := Aside0.mk (fun w1 hg => c_noneB g (.slice A b.length c) s.err s.fat (s.at_ : Int) w1 hg)
  obtain ⟨m, hm⟩ : ∃ z, b.length = z := ⟨_, rfl⟩
  have e1 : IntKind.i64.wrap ((m : Int) - (s.at_ : Int)) = (m : Int) - (s.at_ : Int) := IntWalk.i64_in _ (by have := HM.out; omega)
  unfold rLeft
  rw [hm]
  rw [hm] at HP HN HS
  clear hm
  go_enter Try.func72, Try.ntmps72
  go_wp2_with fail
  refine (HN.out _ (HP.out.blk 0 rfl)).mono ?_; rintro e wb ⟨rfl, rfl⟩
  go_wp2_with fail
  refine held_named (S := (fun w' => w'.cell? ⟨g, 1, none⟩ = some (.slice A m c) ∧ w'.cell? ⟨g, 4, none⟩ = some (.int .i64 (s.at_ : Int)))) (by kernel_rfl) (fun wd3 hwd3 => ?_)
  have HPn := Aside0.mk (HP.out.drewN 1)
  rw [← World.drew_is_drewN, hwd3] at HPn
  clear HP hwd3
  have HP := HPn
  clear HPn
  refine ⟨by (try dsimp only); exact ⟨blk_cell (HP.out.blk 0 rfl) 1, blk_cell (HP.out.blk 0 rfl) 4⟩, fun hHeld => ?_⟩
  refine wpAnyH_take (i := 0) (oi := ({ dst := (some 11), op := (Op.move (Operand.tmp 0)), type := 57, pos := "word.go:180", after := #[], guard := none } : Oper)) (v := ?_) rfl (by kernel_rfl) (by kernel_rfl) (by kernel_rfl) (fun _ _ _ h => h) (Or.inl ⟨by rfl, ?_⟩) hHeld ?_
  rotate_left
  · intro w_ hSw; (try dsimp only at hSw); go_simp; try (with_reducible rfl)
  try simp only [Act.put, List.setIfInBounds_toArray, List.set_cons_zero, List.set_cons_succ]
  refine wpAnyH_take (i := 1) (oi := ({ dst := (some 12), op := (Op.nilCheck (Operand.tmp 11)), type := 0, pos := "word.go:180", after := #[{ on := 0, ground := Ground.data }], guard := none } : Oper)) (v := ?_) rfl (by kernel_rfl) (by kernel_rfl) (by kernel_rfl) (fun _ _ _ h => h) (Or.inl ⟨by rfl, ?_⟩) hHeld ?_
  rotate_left
  · intro w_ hSw; (try dsimp only at hSw); go_simp; try (with_reducible rfl)
  try simp only [Act.put, List.setIfInBounds_toArray, List.set_cons_zero, List.set_cons_succ]
  refine wpAnyH_take (i := 2) (oi := ({ dst := (some 13), op := (Op.fieldAddr 93 (Operand.tmp 12) 0), type := 0, pos := "word.go:180", after := #[{ on := 1, ground := Ground.data }], guard := none } : Oper)) (v := ?_) rfl (by kernel_rfl) (by kernel_rfl) (by kernel_rfl) (fun _ _ _ h => h) (Or.inl ⟨by rfl, ?_⟩) hHeld ?_
  rotate_left
  · intro w_ hSw; (try dsimp only at hSw); go_simp; try (with_reducible rfl)
  try simp only [Act.put, List.setIfInBounds_toArray, List.set_cons_zero, List.set_cons_succ]
  refine wpAnyH_take (i := 3) (oi := ({ dst := (some 14), op := (Op.fieldAddr 91 (Operand.tmp 13) 1), type := 0, pos := "word.go:180", after := #[{ on := 2, ground := Ground.data }], guard := none } : Oper)) (v := ?_) rfl (by kernel_rfl) (by kernel_rfl) (by kernel_rfl) (fun _ _ _ h => h) (Or.inl ⟨by rfl, ?_⟩) hHeld ?_
  rotate_left
  · intro w_ hSw; (try dsimp only at hSw); go_simp; try (with_reducible rfl)
  try simp only [Act.put, List.setIfInBounds_toArray, List.set_cons_zero, List.set_cons_succ]
  refine wpAnyH_take (i := 4) (oi := ({ dst := (some 15), op := (Op.load 22 (Operand.tmp 14)), type := 22, pos := "word.go:180", after := #[{ on := 3, ground := Ground.data }], guard := none } : Oper)) (v := ?_) rfl (by kernel_rfl) (by kernel_rfl) (by kernel_rfl) (fun _ _ _ h => h) (Or.inl ⟨by rfl, ?_⟩) hHeld ?_
  rotate_left
  · intro w_ hSw; (try dsimp only at hSw); go_simp; try (with_reducible rfl)
  try simp only [Act.put, List.setIfInBounds_toArray, List.set_cons_zero, List.set_cons_succ]
  refine wpAnyH_take (i := 5) (oi := ({ dst := (some 16), op := (Op.call { callee := (Callee.builtin Builtin.len), args := #[(Operand.tmp 15)], argTypes := #[22] }), type := 3, pos := "word.go:180", after := #[{ on := 4, ground := Ground.data }], guard := none } : Oper)) (v := ?_) rfl (by kernel_rfl) (by kernel_rfl) (by kernel_rfl) (fun _ _ _ h => h) (Or.inl ⟨by rfl, ?_⟩) hHeld ?_
  rotate_left
  · intro w_ hSw; (try dsimp only at hSw); go_simp; try (with_reducible rfl)
  try simp only [Act.put, List.setIfInBounds_toArray, List.set_cons_zero, List.set_cons_succ]
  refine wpAnyH_take (i := 6) (oi := ({ dst := (some 17), op := (Op.move (Operand.tmp 0)), type := 57, pos := "word.go:180", after := #[], guard := none } : Oper)) (v := ?_) rfl (by kernel_rfl) (by kernel_rfl) (by kernel_rfl) (fun _ _ _ h => h) (Or.inl ⟨by rfl, ?_⟩) hHeld ?_
  rotate_left
  · intro w_ hSw; (try dsimp only at hSw); go_simp; try (with_reducible rfl)
  try simp only [Act.put, List.setIfInBounds_toArray, List.set_cons_zero, List.set_cons_succ]
  refine wpAnyH_take (i := 7) (oi := ({ dst := (some 18), op := (Op.nilCheck (Operand.tmp 17)), type := 0, pos := "word.go:180", after := #[{ on := 6, ground := Ground.data }], guard := none } : Oper)) (v := ?_) rfl (by kernel_rfl) (by kernel_rfl) (by kernel_rfl) (fun _ _ _ h => h) (Or.inl ⟨by rfl, ?_⟩) hHeld ?_
  rotate_left
  · intro w_ hSw; (try dsimp only at hSw); go_simp; try (with_reducible rfl)
  try simp only [Act.put, List.setIfInBounds_toArray, List.set_cons_zero, List.set_cons_succ]
  refine wpAnyH_take (i := 8) (oi := ({ dst := (some 19), op := (Op.fieldAddr 93 (Operand.tmp 18) 1), type := 0, pos := "word.go:180", after := #[{ on := 7, ground := Ground.data }], guard := none } : Oper)) (v := ?_) rfl (by kernel_rfl) (by kernel_rfl) (by kernel_rfl) (fun _ _ _ h => h) (Or.inl ⟨by rfl, ?_⟩) hHeld ?_
  rotate_left
  · intro w_ hSw; (try dsimp only at hSw); go_simp; try (with_reducible rfl)
  try simp only [Act.put, List.setIfInBounds_toArray, List.set_cons_zero, List.set_cons_succ]
  refine wpAnyH_take (i := 9) (oi := ({ dst := (some 20), op := (Op.load 3 (Operand.tmp 19)), type := 3, pos := "word.go:180", after := #[{ on := 8, ground := Ground.data }], guard := none } : Oper)) (v := ?_) rfl (by kernel_rfl) (by kernel_rfl) (by kernel_rfl) (fun _ _ _ h => h) (Or.inl ⟨by rfl, ?_⟩) hHeld ?_
  rotate_left
  · intro w_ hSw; (try dsimp only at hSw); go_simp; try (with_reducible rfl)
  try simp only [Act.put, List.setIfInBounds_toArray, List.set_cons_zero, List.set_cons_succ]
  refine wpAnyH_take (i := 10) (oi := ({ dst := (some 21), op := (Op.binOp BinOp.sub 3 (Operand.tmp 16) (Operand.tmp 20) 3), type := 3, pos := "word.go:180", after := #[{ on := 5, ground := Ground.data }, { on := 9, ground := Ground.data }], guard := none } : Oper)) (v := ?_) rfl (by kernel_rfl) (by kernel_rfl) (by kernel_rfl) (fun _ _ _ h => h) (Or.inl ⟨by rfl, ?_⟩) hHeld ?_
  rotate_left
  · intro w_ hSw; (try dsimp only at hSw); go_simp; try (with_reducible rfl)
  try simp only [Act.put, List.setIfInBounds_toArray, List.set_cons_zero, List.set_cons_succ]
  refine wpAnyH_take (i := 11) (oi := ({ dst := (some 2), op := (Op.assign (Operand.tmp 21)), type := 3, pos := "word.go:180", after := #[{ on := 10, ground := Ground.data }, { on := 0, ground := Ground.phase }, { on := 1, ground := Ground.phase }, { on := 2, ground := Ground.phase }, { on := 3, ground := Ground.phase }, { on := 4, ground := Ground.phase }, { on := 5, ground := Ground.phase }, { on := 6, ground := Ground.phase }, { on := 7, ground := Ground.phase }, { on := 8, ground := Ground.phase }, { on := 9, ground := Ground.phase }, { on := 10, ground := Ground.phase }], guard := none } : Oper)) (v := ?_) rfl (by kernel_rfl) (by kernel_rfl) (by kernel_rfl) (fun _ _ _ h => h) (Or.inl ⟨by rfl, ?_⟩) hHeld ?_
  rotate_left
  · intro w_ hSw; (try dsimp only at hSw); go_simp; try (with_reducible rfl)
  try simp only [Act.put, List.setIfInBounds_toArray, List.set_cons_zero, List.set_cons_succ]
  refine wpAnyH_done (by kernel_rfl) ?_ _
  go_wp2_with fail
  go_ret
  exact ⟨rfl, HS.out _ HP.out⟩
set_option maxHeartbeats 8000000 in
set_option maxRecDepth 100000 in
theorem c_end {w0 w : World} {Rs : List Res} (HP : Hp w0 w Rs) (i g : Nat) (b : List Int) (s : RS) (hi : Rs[i]? = some (rReader w0.heap.size g b s)) :
    Calls Try.prog 36 #[.pointer (some ⟨g, 0, none⟩)] w fun e w' => e = .returned (.agg #[.int .i64 (rEnd b s).1, .int .i64 (rEnd b s).2]) ∧ Hp w0 w' Rs := by
  have HPn := Aside0.mk HP
  have HI := Aside0.mk hi
  clear HP hi
  have HP := HPn
  clear HPn
  unfold rEnd
  by_cases he : s.err = 0
  · by_cases hl : s.at_ < b.length
    · have HRE := Aside0.mk (show s.err = 0 ∧ s.at_ < b.length from ⟨he, hl⟩)
      rw [if_pos HRE.out]
      have d2 : decide (0 < rLeft b s) = true := decide_eq_true (by unfold rLeft; omega)
      have d1 : (s.err == 0) = true := beq_iff_eq.2 he
      clear he hl
      go_enter Try.func36, Try.ntmps36
      go_wp2_with (first | ((with_reducible refine gate_dst (N := 2) rfl ?_); refine ev_alloc rfl 30 rfl (.agg #[.int .i64 0, .int .i64 0]) (by kernel_rfl) ?_; intro gf wa hge hg hb; have HPn := Aside0.mk (HP.out.newB hb hg hge); clear HP; have HP := HPn; clear HPn; clear hge hg hb))
      refine (c_fault HP.out (i + 1) g b s HI.out).mono ?_; rintro e wb ⟨rfl, hpn⟩
      clear HP
      have HP := Aside0.mk hpn
      clear hpn
      go_wp2_with (first | ((with_reducible refine gate_dst (N := 3) rfl ?_); refine ev_alloc rfl 30 rfl (.agg #[.int .i64 0, .int .i64 0]) (by kernel_rfl) ?_; intro gx wc hge hg hb; have HPn := Aside0.mk (HP.out.newB hb hg hge); clear HP; have HP := HPn; clear HPn; clear hge hg hb) | ((with_reducible refine gate_store (t := 30) (p := 3) rfl ?_); refine ev_store rfl 30 (.tmp 3) (.tmp 5) rfl rfl _ rfl (cells := #[.int .i64 s.err, .int .i64 s.fat]) rfl (HP.out.blk 0 rfl) (by kernel_rfl) rfl (by simp [Value.oneCell']) ?_; intro wd hg hgr; have HPn := Aside0.mk (HP.out.setB 0 rfl hgr hg); clear HP; have HP := HPn; clear HPn; clear hg hgr; have x0 : wd.cell? ⟨gx, 0, none⟩ = some (.int .i64 s.err) := blk_cell (HP.out.blk 0 rfl) 0; have x1 : wd.cell? ⟨gx, 1, none⟩ = some (.int .i64 s.fat) := blk_cell (HP.out.blk 0 rfl) 1; have k0 : wd.cell? ⟨gf, 0, none⟩ = some (.int .i64 0) := blk_cell (HP.out.blk 1 rfl) 0; have k1 : wd.cell? ⟨gf, 1, none⟩ = some (.int .i64 0) := blk_cell (HP.out.blk 1 rfl) 1; have f0 := frozC (HP.out.blk 1 rfl) 0; have f1 := frozC (HP.out.blk 1 rfl) 1; have HP9 := Aside0.mk ((HP.out.setCell 1 rfl 0 (.int .i64 s.err)).setCell 1 rfl 1 (.int .i64 s.fat))))
      clear x0 x1 k0 k1 f0 f1 HP9
      have CL := Aside0.mk (c_left HP.out (i + 2) g b s HI.out)
      refine CL.out.mono ?_; rintro e we ⟨rfl, hpn⟩
      clear CL HP
      have HP := Aside0.mk hpn
      clear hpn
      have x0 : we.cell? ⟨gx, 0, none⟩ = some (.int .i64 s.err) := blk_cell (HP.out.blk 0 rfl) 0
      have x1 : we.cell? ⟨gx, 1, none⟩ = some (.int .i64 s.fat) := blk_cell (HP.out.blk 0 rfl) 1
      have k0 : we.cell? ⟨gf, 0, none⟩ = some (.int .i64 0) := blk_cell (HP.out.blk 1 rfl) 0
      have k1 : we.cell? ⟨gf, 1, none⟩ = some (.int .i64 0) := blk_cell (HP.out.blk 1 rfl) 1
      have f0 := frozC (HP.out.blk 1 rfl) 0
      have f1 := frozC (HP.out.blk 1 rfl) 1
      have z0 := frozC (HP.out.blk 0 rfl) 0
      have z1 := frozC (HP.out.blk 0 rfl) 1
      have hat : we.cell? ⟨g, 4, none⟩ = some (.int .i64 (s.at_ : Int)) := cell_at HP.out (i + 2) HI.out
      have HP8 := Aside0.mk ((HP.out.setCell 0 rfl 0 (.int .i64 4)).setCell 0 rfl 1 (.int .i64 (s.at_ : Int)))
      have HP9 := Aside0.mk ((HP8.out.setCell 1 rfl 0 (.int .i64 4)).setCell 1 rfl 1 (.int .i64 (s.at_ : Int)))
      have y0 := blk_cell (HP8.out.blk 0 rfl) 0
      have y1 := blk_cell (HP8.out.blk 0 rfl) 1
      have y2 := blk_cell (HP8.out.blk 1 rfl) 0
      have y3 := blk_cell (HP8.out.blk 1 rfl) 1
      have y4 := frozC (HP8.out.blk 1 rfl) 0
      have y5 := frozC (HP8.out.blk 1 rfl) 1
      simp only [List.setIfInBounds_toArray, List.set_cons_zero, List.set_cons_succ, List.getElem?_toArray, List.getElem?_cons_zero, List.getElem?_cons_succ] at y0 y1 y2 y3
      go_wp2_with fail
      have hl9 := load_fault HP9.out 1 rfl
      refine bodyPost_ret (v := .agg #[.int .i64 4, .int .i64 (s.at_ : Int)]) (results_cell2 rfl _ _ (by rfl) hl9) rfl ⟨rfl, HP9.out.drop1.drop1⟩
    · rw [if_neg (fun h => hl h.2)]
      have d2 : decide (0 < rLeft b s) = false := decide_eq_false (by unfold rLeft; omega)
      have d1 : (s.err == 0) = true := beq_iff_eq.2 he
      clear he hl
      go_enter Try.func36, Try.ntmps36
      go_wp2_with (first | ((with_reducible refine gate_dst (N := 2) rfl ?_); refine ev_alloc rfl 30 rfl (.agg #[.int .i64 0, .int .i64 0]) (by kernel_rfl) ?_; intro gf wa hge hg hb; have HPn := Aside0.mk (HP.out.newB hb hg hge); clear HP; have HP := HPn; clear HPn; clear hge hg hb))
      refine (c_fault HP.out (i + 1) g b s HI.out).mono ?_; rintro e wb ⟨rfl, hpn⟩
      clear HP
      have HP := Aside0.mk hpn
      clear hpn
      go_wp2_with (first | ((with_reducible refine gate_dst (N := 3) rfl ?_); refine ev_alloc rfl 30 rfl (.agg #[.int .i64 0, .int .i64 0]) (by kernel_rfl) ?_; intro gx wc hge hg hb; have HPn := Aside0.mk (HP.out.newB hb hg hge); clear HP; have HP := HPn; clear HPn; clear hge hg hb) | ((with_reducible refine gate_store (t := 30) (p := 3) rfl ?_); refine ev_store rfl 30 (.tmp 3) (.tmp 5) rfl rfl _ rfl (cells := #[.int .i64 s.err, .int .i64 s.fat]) rfl (HP.out.blk 0 rfl) (by kernel_rfl) rfl (by simp [Value.oneCell']) ?_; intro wd hg hgr; have HPn := Aside0.mk (HP.out.setB 0 rfl hgr hg); clear HP; have HP := HPn; clear HPn; clear hg hgr; have x0 : wd.cell? ⟨gx, 0, none⟩ = some (.int .i64 s.err) := blk_cell (HP.out.blk 0 rfl) 0; have x1 : wd.cell? ⟨gx, 1, none⟩ = some (.int .i64 s.fat) := blk_cell (HP.out.blk 0 rfl) 1; have k0 : wd.cell? ⟨gf, 0, none⟩ = some (.int .i64 0) := blk_cell (HP.out.blk 1 rfl) 0; have k1 : wd.cell? ⟨gf, 1, none⟩ = some (.int .i64 0) := blk_cell (HP.out.blk 1 rfl) 1; have f0 := frozC (HP.out.blk 1 rfl) 0; have f1 := frozC (HP.out.blk 1 rfl) 1; have HP9 := Aside0.mk ((HP.out.setCell 1 rfl 0 (.int .i64 s.err)).setCell 1 rfl 1 (.int .i64 s.fat))))
      clear x0 x1 k0 k1 f0 f1 HP9
      have CL := Aside0.mk (c_left HP.out (i + 2) g b s HI.out)
      refine CL.out.mono ?_; rintro e we ⟨rfl, hpn⟩
      clear CL HP
      have HP := Aside0.mk hpn
      clear hpn
      have x0 : we.cell? ⟨gx, 0, none⟩ = some (.int .i64 s.err) := blk_cell (HP.out.blk 0 rfl) 0
      have x1 : we.cell? ⟨gx, 1, none⟩ = some (.int .i64 s.fat) := blk_cell (HP.out.blk 0 rfl) 1
      have k0 : we.cell? ⟨gf, 0, none⟩ = some (.int .i64 0) := blk_cell (HP.out.blk 1 rfl) 0
      have k1 : we.cell? ⟨gf, 1, none⟩ = some (.int .i64 0) := blk_cell (HP.out.blk 1 rfl) 1
      have f0 := frozC (HP.out.blk 1 rfl) 0
      have f1 := frozC (HP.out.blk 1 rfl) 1
      have HP9 := Aside0.mk ((HP.out.setCell 1 rfl 0 (.int .i64 s.err)).setCell 1 rfl 1 (.int .i64 s.fat))
      go_wp2_with fail
      have hl9 := load_fault HP9.out 1 rfl
      refine bodyPost_ret (v := .agg #[.int .i64 s.err, .int .i64 s.fat]) (results_cell2 rfl _ _ (by rfl) hl9) rfl ⟨rfl, HP9.out.drop1.drop1⟩
  · rw [if_neg (fun h => he h.1)]
    have d1 : (s.err == 0) = false := beq_eq_false_iff_ne.2 he
    clear he
    go_enter Try.func36, Try.ntmps36
    go_wp2_with (first | ((with_reducible refine gate_dst (N := 2) rfl ?_); refine ev_alloc rfl 30 rfl (.agg #[.int .i64 0, .int .i64 0]) (by kernel_rfl) ?_; intro gf wa hge hg hb; have HPn := Aside0.mk (HP.out.newB hb hg hge); clear HP; have HP := HPn; clear HPn; clear hge hg hb))
    refine (c_fault HP.out (i + 1) g b s HI.out).mono ?_; rintro e wb ⟨rfl, hpn⟩
    clear HP
    have HP := Aside0.mk hpn
    clear hpn
    go_wp2_with (first | ((with_reducible refine gate_dst (N := 3) rfl ?_); refine ev_alloc rfl 30 rfl (.agg #[.int .i64 0, .int .i64 0]) (by kernel_rfl) ?_; intro gx wc hge hg hb; have HPn := Aside0.mk (HP.out.newB hb hg hge); clear HP; have HP := HPn; clear HPn; clear hge hg hb) | ((with_reducible refine gate_store (t := 30) (p := 3) rfl ?_); refine ev_store rfl 30 (.tmp 3) (.tmp 5) rfl rfl _ rfl (cells := #[.int .i64 s.err, .int .i64 s.fat]) rfl (HP.out.blk 0 rfl) (by kernel_rfl) rfl (by simp [Value.oneCell']) ?_; intro wd hg hgr; have HPn := Aside0.mk (HP.out.setB 0 rfl hgr hg); clear HP; have HP := HPn; clear HPn; clear hg hgr; have x0 : wd.cell? ⟨gx, 0, none⟩ = some (.int .i64 s.err) := blk_cell (HP.out.blk 0 rfl) 0; have x1 : wd.cell? ⟨gx, 1, none⟩ = some (.int .i64 s.fat) := blk_cell (HP.out.blk 0 rfl) 1; have k0 : wd.cell? ⟨gf, 0, none⟩ = some (.int .i64 0) := blk_cell (HP.out.blk 1 rfl) 0; have k1 : wd.cell? ⟨gf, 1, none⟩ = some (.int .i64 0) := blk_cell (HP.out.blk 1 rfl) 1; have f0 := frozC (HP.out.blk 1 rfl) 0; have f1 := frozC (HP.out.blk 1 rfl) 1; have HP9 := Aside0.mk ((HP.out.setCell 1 rfl 0 (.int .i64 s.err)).setCell 1 rfl 1 (.int .i64 s.fat))))
    have hl9 := load_fault HP9.out 1 rfl
    refine bodyPost_ret (v := .agg #[.int .i64 s.err, .int .i64 s.fat]) (results_cell2 rfl _ _ (by rfl) hl9) rfl ⟨rfl, HP9.out.drop1.drop1⟩
end Go.Proofs.Ytlgnfbgjdkbfoaa.Wd
namespace Go.Proofs.Ytlgnfbgjdkbfoaa.Wd
open Go.RowKit Go.Proofs.YtlgnfbgjdkbfoaaW.PrintWords Go.Proofs.YtlgnfbgjdkbfoaaW.PrintLast Go.Proofs.YtlgnfbgjdkbfoaaW.PrintMore Go.Proofs.YtlgnfbgjdkbfoaaXe Go.Proofs.YtlgnfbgjdkbfoaaXs
set_option linter.unusedVariables false
set_option linter.unusedSimpArgs false
attribute [local go_sem ↓] Go.wp_at_zero Go.wp_at_succ
def by8 (l : List Int) : List Value := l.map (Value.int .u8)
theorem by8_len (l : List Int) : (by8 l).length = l.length := by simp [by8]
theorem one_by8 (b : List Int) : ∀ u ∈ by8 b, u.oneCell' = true := by
  intro u h
  obtain ⟨x, _, rfl⟩ := List.mem_map.1 h
  rfl
def z32 : List Int := List.replicate 32 0
theorem z32_len : z32.length = 32 := rfl
/-- an ID is read, or just the fault -/
def idP (b : List Int) (a : Nat) : Except (Int × Int) (List Int × Nat) := if b.length < a + 32 then .error (4, (b.length : Int)) else .ok ((b.take (a + 32)).drop a, a + 32)
def rId (b : List Int) (s : RS) : List Int × RS :=
  if s.err ≠ 0 then (z32, s) else match idP b s.at_ with
  | .ok (x, a) => (x, { s with at_ := a })
  | .error (x, y) => (z32, { s with err := x, fat := y })
theorem idP_ok {b : List Int} {a : Nat} {x : List Int} {a' : Nat} (h : idP b a = .ok (x, a')) : x.length = 32 ∧ a' ≤ b.length := by
  unfold idP at h
  split at h
  · simp at h
  · simp at h
    obtain ⟨rfl, rfl⟩ := h
    rw [List.length_drop, List.length_take]; omega
theorem rId_len (b : List Int) (s : RS) : (rId b s).1.length = 32 := by
  unfold rId
  split
  · rfl
  · cases h : idP b s.at_ with
    | error e => rfl
    | ok p => obtain ⟨x, a⟩ := p; exact (idP_ok h).1
theorem splice_id (l : List Int) (hl : l.length = 32) : splice (by8 z32) 0 ((l.take 32).map (Value.int .u8)) = by8 l := by
  have e : l.take 32 = l := List.take_of_length_le (by omega)
  rw [e]
  unfold splice by8
  rw [List.length_map, hl]
  simp [z32]
theorem load_id {w0 w : World} {Rs : List Res} (HP : Hp w0 w Rs) (j : Nat) {gf : Nat} {l : List Int} (hl : l.length = 32) (hj : Rs[j]? = some (.blk gf (.cells (by8 l).toArray 63 (0, 0)))) : (loadVar 63 ⟨gf, 0, none⟩).run Try.prog w = .ok (.agg (by8 l).toArray) w :=
  run_loadVar_mid _ gf 0 63 _ _ (rangeB (HP.blk j hj)) Try.underlying63 rfl (by rw [by8_len, hl]; kernel_rfl)
set_option maxHeartbeats 8000000 in
set_option maxRecDepth 100000 in
theorem c_id1 {w0 w : World} {Rs : List Res} (t1 t2 t3 : Res) (g : Nat) (A : Option Addr) (c : Nat) (b : List Int) (fat : Int) (a : Nat) (hb : b.length ≤ 140737488355328) (hB : ∀ x ∈ b, 0 ≤ x ∧ x < 256) (hc : b.length ≤ c) (ha : a ≤ b.length) (b3 b2 b1 : Nat)
    (HP : Hp w0 w (t1 :: t2 :: t3 :: .blk b3 (.cells (by8 (z32)).toArray 63 (0, 0)) :: .blk b2 (.cells (by8 z32).toArray 63 (0, 0)) :: .blk b1 (.cells #[.pointer (some ⟨g, 0, none⟩)] 57 (0, 0)) :: .blk g (.cells (rC (.slice A b.length c) 0 fat (a : Int)).toArray 93 (0, 0)) :: .row (Kd.int .u8) 5 w0.heap.size (.slice A b.length c) b :: Rs)) :
    Calls Try.prog 71 #[.pointer (some ⟨b3, 0, none⟩), .pointer (some ⟨b1, 0, none⟩)] w fun e w' => TxP w0 b.length (idP b a) (fun xs a' => t1 :: t2 :: t3 :: .blk b3 (.cells (by8 (xs)).toArray 63 (0, 0)) :: .blk b2 (.cells (by8 z32).toArray 63 (0, 0)) :: .blk b1 (.cells #[.pointer (some ⟨g, 0, none⟩)] 57 (0, 0)) :: .blk g (.cells (rC (.slice A b.length c) 0 fat (a' : Int)).toArray 93 (0, 0)) :: .row (Kd.int .u8) 5 w0.heap.size (.slice A b.length c) b :: Rs) (fun a' => t1 :: t2 :: t3 :: .blk b3 (.cells (by8 (z32)).toArray 63 (0, 0)) :: .blk b2 (.cells (by8 z32).toArray 63 (0, 0)) :: .blk b1 (.cells #[.pointer (some ⟨g, 0, none⟩)] 57 (0, 0)) :: .blk g (.cells (rC (.slice A b.length c) 0 fat (a' : Int)).toArray 93 (0, 0)) :: .row (Kd.int .u8) 5 w0.heap.size (.slice A b.length c) b :: Rs) e w' := by
  have HPn := Aside0.mk HP
  clear HP
  have HP := HPn
  clear HPn
  have HB := Aside0.mk (And.intro hb (And.intro hB (And.intro hc ha)))
  have hcut : ∀ (g : Nat) (w : World), (Instr.sliceAt 63 (.pointer (some ⟨g, 0, none⟩)) none none none).run Try.prog w = .ok (.slice (some ⟨g, 0, none⟩) 32 32) w := fun g w => run_cut_all (P := Try.prog) Try.underlying63 (by kernel_rfl) (by decide) g 0 w
  clear hb hB hc ha
  by_cases hlt : b.length < a + 32
  · have HLT := Aside0.mk hlt
    clear hlt
    go_enter Try.func71, Try.ntmps71
    go_wp2_with fail
    refine held_named (S := (fun w' => w'.cell? ⟨b1, 0, none⟩ = some (.pointer (some ⟨g, 0, none⟩)))) (by kernel_rfl) (fun wd0 hwd0 => ?_)
    have HPn := Aside0.mk (HP.out.drewN 1)
    rw [← World.drew_is_drewN, hwd0] at HPn
    clear HP hwd0
    have HP := HPn
    clear HPn
    refine ⟨by (try dsimp only); exact blk_cell (HP.out.blk 5 rfl) 0, fun hHeld => ?_⟩
    refine wpAnyH_take (i := 0) (oi := ({ dst := (some 2), op := (Op.slice 63 (Operand.tmp 0) none none none), type := 22, pos := "word.go:162", after := #[], guard := none } : Oper)) (v := ?_) rfl (by kernel_rfl) (by kernel_rfl) (by kernel_rfl) (fun _ _ _ h => h) (Or.inl ⟨by rfl, ?_⟩) hHeld ?_
    rotate_left
    · intro w_ hSw; (try dsimp only at hSw); go_simp; try (with_reducible rfl)
    try simp only [Act.put, List.setIfInBounds_toArray, List.set_cons_zero, List.set_cons_succ]
    refine wpAnyH_take (i := 1) (oi := ({ dst := (some 3), op := (Op.load 57 (Operand.tmp 1)), type := 57, pos := "word.go:162", after := #[], guard := none } : Oper)) (v := ?_) rfl (by kernel_rfl) (by kernel_rfl) (by kernel_rfl) (fun _ _ _ h => h) (Or.inl ⟨by rfl, ?_⟩) hHeld ?_
    rotate_left
    · intro w_ hSw; (try dsimp only at hSw); go_simp; try (with_reducible rfl)
    try simp only [Act.put, List.setIfInBounds_toArray, List.set_cons_zero, List.set_cons_succ]
    refine wpAnyH_ready (rs := [2]) (by kernel_rfl) (by simp) ?_
    refine AllReadyH.cons (o := ({ dst := (some 4), op := (Op.call { callee := (Callee.value (Operand.func 70)), args := #[(Operand.tmp 3), (Operand.const (Value.int IntKind.i64 32))], argTypes := #[57, 3] }), type := 22, pos := "word.go:162", after := #[{ on := 1, ground := Ground.data }], guard := none } : Oper)) rfl (fun K hK => ?_) AllReadyH.nil
    go_simp
    have CS := Aside0.mk (c_someE HP.out 6 g A c b 0 fat a 32 rfl HB.out.1 HB.out.2.2.2 HLT.out (by decide)); rw [show ((32 : Nat) : Int) = 32 from rfl] at CS; refine CS.out.mono ?_; rintro e w2 ⟨rfl, hpn⟩; go_wp2_with fail; refine ⟨rfl, ?_⟩; unfold TxP idP; rw [if_pos HLT.out]; exact ⟨rfl, a, hpn⟩
  · have HLE := Aside0.mk (show a + 32 ≤ b.length by omega)
    have HLN := Aside0.mk (show ((b.take (a + 32)).drop a).length = 32 by rw [List.length_drop, List.length_take]; omega)
    have HLT := Aside0.mk hlt
    clear hlt
    go_enter Try.func71, Try.ntmps71
    go_wp2_with fail
    refine held_named (S := (fun w' => w'.cell? ⟨b1, 0, none⟩ = some (.pointer (some ⟨g, 0, none⟩)))) (by kernel_rfl) (fun wd0 hwd0 => ?_)
    have HPn := Aside0.mk (HP.out.drewN 1)
    rw [← World.drew_is_drewN, hwd0] at HPn
    clear HP hwd0
    have HP := HPn
    clear HPn
    refine ⟨by (try dsimp only); exact blk_cell (HP.out.blk 5 rfl) 0, fun hHeld => ?_⟩
    refine wpAnyH_take (i := 0) (oi := ({ dst := (some 2), op := (Op.slice 63 (Operand.tmp 0) none none none), type := 22, pos := "word.go:162", after := #[], guard := none } : Oper)) (v := ?_) rfl (by kernel_rfl) (by kernel_rfl) (by kernel_rfl) (fun _ _ _ h => h) (Or.inl ⟨by rfl, ?_⟩) hHeld ?_
    rotate_left
    · intro w_ hSw; (try dsimp only at hSw); go_simp; try (with_reducible rfl)
    try simp only [Act.put, List.setIfInBounds_toArray, List.set_cons_zero, List.set_cons_succ]
    refine wpAnyH_take (i := 1) (oi := ({ dst := (some 3), op := (Op.load 57 (Operand.tmp 1)), type := 57, pos := "word.go:162", after := #[], guard := none } : Oper)) (v := ?_) rfl (by kernel_rfl) (by kernel_rfl) (by kernel_rfl) (fun _ _ _ h => h) (Or.inl ⟨by rfl, ?_⟩) hHeld ?_
    rotate_left
    · intro w_ hSw; (try dsimp only at hSw); go_simp; try (with_reducible rfl)
    try simp only [Act.put, List.setIfInBounds_toArray, List.set_cons_zero, List.set_cons_succ]
    refine wpAnyH_ready (rs := [2]) (by kernel_rfl) (by simp) ?_
    refine AllReadyH.cons (o := ({ dst := (some 4), op := (Op.call { callee := (Callee.value (Operand.func 70)), args := #[(Operand.tmp 3), (Operand.const (Value.int IntKind.i64 32))], argTypes := #[57, 3] }), type := 22, pos := "word.go:162", after := #[{ on := 1, ground := Ground.data }], guard := none } : Oper)) rfl (fun K hK => ?_) AllReadyH.nil
    go_simp
    have CS := Aside0.mk (c_some HP.out 6 g A c b 0 fat a 32 rfl HB.out.1 HB.out.2.2.1 HLE.out); rw [show ((32 : Nat) : Int) = 32 from rfl] at CS; refine CS.out.mono ?_; rintro e w2 ⟨A', rfl, hC, hpn⟩; clear HP CS; have HP := Aside0.mk hpn; have HC := Aside0.mk hC; clear hpn hC
    go_wp2_with fail
    clear hHeld
    refine hK.out _ _ ?_ (fun hHeld => ?_)
    · (try dsimp only); exact blk_cell (HP.out.blk 5 rfl) 0
    clear hK K
    try simp only [Act.put, List.setIfInBounds_toArray, List.set_cons_zero, List.set_cons_succ]
    refine wpAnyH_ready (rs := [3]) (by kernel_rfl) (by simp) ?_
    refine AllReadyH.cons (o := ({ dst := (some 5), op := (Op.call { callee := (Callee.builtin Builtin.copy), args := #[(Operand.tmp 2), (Operand.tmp 4)], argTypes := #[22, 22] }), type := 3, pos := "word.go:162", after := #[{ on := 0, ground := Ground.data }, { on := 2, ground := Ground.data }, { on := 2, ground := Ground.chain }], guard := none } : Oper)) rfl (fun K hK => ?_) AllReadyH.nil
    refine st_copy (k := .u8) HP.out 3 (g := b3) (off := 0) (cur := by8 z32) rfl (by rfl) _ _ 22 22 (by rfl) 5 Try.underlying22 (by kernel_rfl) 32 32 (by rfl) (A := A') (m := 32) (c := c - a) (by rfl) (l := (b.take (a + 32)).drop a) HLN.out (HC.out _ (Kd.R_reads' (HP.out.row 7 rfl)).2.2) (cs := (((b.take (a + 32)).drop a).take 32).map (Value.int .u8)) rfl (by rw [List.length_map, List.length_take, by8_len, HLN.out]; decide) (n := 32) (by rw [List.length_map, List.length_take, HLN.out]; rfl) ?_; intro we hpn; rw [splice_id _ HLN.out] at hpn; clear HP; have HP := Aside0.mk hpn; clear hpn
    clear hHeld
    refine hK.out _ _ ?_ (fun hHeld => ?_)
    · (try dsimp only); exact blk_cell (HP.out.blk 5 rfl) 0
    clear hK K
    try simp only [Act.put, List.setIfInBounds_toArray, List.set_cons_zero, List.set_cons_succ]
    refine wpAnyH_done (by kernel_rfl) ?_ _
    go_wp2_with fail
    refine bodyPost_end (v := .tuple #[]) (by simp [results, Try.results71, go_sem]) rfl ?_
    unfold TxP idP
    rw [if_neg HLT.out]
    exact ⟨by first | rfl | trivial, HLE.out, HP.out⟩
set_option maxHeartbeats 8000000 in
set_option maxRecDepth 100000 in
theorem c_rid {w0 w : World} {Rs : List Res} (HP : Hp w0 w Rs) (i g : Nat) (b : List Int) (s : RS) (hi : Rs[i]? = some (rReader w0.heap.size g b s)) :
    Calls Try.prog 35 #[.pointer (some ⟨g, 0, none⟩)] w fun e w' => e = .returned (.agg (by8 (rId b s).1).toArray) ∧ Hp w0 w' (Rs.set i (rReader w0.heap.size g b (rId b s).2)) := by
  have HSELF := Aside0.mk (show Rs.set i (rReader w0.heap.size g b s) = Rs from set_self hi)
  obtain ⟨v, hm, HP0⟩ := HP.openE i hi
  have HP1 : Hp w0 w (.blk g (.cells (rC v s.err s.fat (s.at_ : Int)).toArray 93 (0, 0)) :: .row (Kd.int .u8) 5 w0.heap.size v b :: Rs.set i .none) := HP0
  have hil : i < Rs.length := (List.getElem?_eq_some_iff.1 hi).1
  have hm2 : s.at_ ≤ b.length ∧ b.length ≤ 140737488355328 ∧ ∀ x ∈ b, 0 ≤ x ∧ x < 256 := hm
  have HPn := Aside0.mk HP1
  have HM := Aside0.mk hm2
  have HI := Aside0.mk hil
  clear HP HP0 HP1 hm hm2 hil hi
  have HP := HPn
  clear HPn
  obtain ⟨A, c, rfl⟩ := Kd.R_slice (HP.out.row 1 rfl)
  have HC := Aside0.mk (Kd.R_reads' (HP.out.row 1 rfl)).2.1
  have hmf : ∀ (fn : Fn) (first cap : Array Value) (w : World), (Instr.makeFunc fn first cap).run Try.prog w = .ok (.func fn first cap) w := fun fn first cap w => by simp [Instr.makeFunc]
  have HEN := Aside0.mk (fun w (b3 b1 : Nat) => enters_fn (P := Try.prog) Try.func71 (by kernel_rfl) rfl #[.pointer (some ⟨b3, 0, none⟩), .pointer (some ⟨b1, 0, none⟩)] w)
  unfold rId
  by_cases he : s.err = 0
  · rw [if_neg (by rw [he]; decide)]
    rw [he] at HP
    cases hr : idP b s.at_ with
    | error p =>
      obtain ⟨x, y⟩ := p
      have HRR := Aside0.mk hr
      clear hr
      go_enter Try.func35, Try.ntmps35
      go_wp2_with (first | ((with_reducible refine gate_dst (N := 1) rfl ?_); refine ev_boxv rfl 57 (.tmp 0) rfl (.pointer (some ⟨g, 0, none⟩)) rfl rfl ?_; intro b1 wa hge hg hb; have HPn := Aside0.mk (HP.out.newB hb hg hge); clear HP; have HP := HPn; clear HPn; clear hge hg hb) | ((with_reducible refine gate_dst (N := 2) rfl ?_); refine ev_alloc rfl 63 rfl (.agg (by8 z32).toArray) (by kernel_rfl) ?_; intro b2 wb hge hg hb; have HPn := Aside0.mk (HP.out.newB hb hg hge); clear HP; have HP := HPn; clear HPn; clear hge hg hb) | ((with_reducible refine gate_dst (N := 3) rfl ?_); refine ev_alloc rfl 63 rfl (.agg (by8 z32).toArray) (by kernel_rfl) ?_; intro b3 wc hge hg hb; have HPn := Aside0.mk (HP.out.newB hb hg hge); clear HP; have HP := HPn; clear HPn; clear hge hg hb; have hq1 : wc.cell? ⟨b1, 0, none⟩ = some (.pointer (some ⟨g, 0, none⟩)) := blk_cell (HP.out.blk 2 rfl) 0))
      clear hq1
      have CT := Aside0.mk (c_tryB HP.out 3 g (.slice A b.length c) s.fat (s.at_ : Int) rfl 71 #[.pointer (some ⟨b3, 0, none⟩), .pointer (some ⟨b1, 0, none⟩)] (fun w => HEN.out w b3 b1) (fun R => ∃ a' : Nat, R = (.blk b3 (.cells (by8 (z32)).toArray 63 (0, 0)) :: .blk b2 (.cells (by8 z32).toArray 63 (0, 0)) :: .blk b1 (.cells #[.pointer (some ⟨g, 0, none⟩)] 57 (0, 0)) :: .blk g (.cells (rC (.slice A b.length c) 0 s.fat (a' : Int)).toArray 93 (0, 0)) :: .row (Kd.int .u8) 5 w0.heap.size (.slice A b.length c) b :: Rs.set i .none)) x y (fun t1 t2 t3 w1 h => (c_id1 (.blk t1 _) (.blk t2 _) (.blk t3 _) g A c b s.fat s.at_ HM.out.2.1 HM.out.2.2 HC.out HM.out.1 b3 b2 b1 h).mono fun e w' h9 => by
        unfold TxP at h9
        rw [HRR.out] at h9
        obtain ⟨h1, a', h2⟩ := h9
        exact ⟨h1, _, _, ⟨a', rfl⟩, rfl, h2⟩))
      refine CT.out.mono ?_; rintro e w2 ⟨rfl, Rs2, ⟨a', rfl⟩, hpn⟩
      clear CT HP
      have HP := Aside0.mk hpn
      clear hpn
      go_wp2_with (first | ((with_reducible refine gate_dst (N := 8) rfl ?_); refine ev_run rfl (run_op_build _ _ (by rfl) [] (by rfl) (cells := (by8 z32).toArray) (by kernel_rfl)) ?_) | ((with_reducible refine gate_store (t := 63) (p := 2) rfl ?_); refine ev_store rfl 63 (.tmp 2) (.tmp 8) rfl rfl _ rfl (cells := (by8 z32).toArray) rfl (HP.out.blk 1 rfl) (by rw [List.size_toArray, by8_len, z32_len]; kernel_rfl) rfl (all_oneCell_toArray (one_by8 _)) ?_; intro wz hg hgr; have HPn := Aside0.mk (HP.out.setB 1 rfl hgr hg); clear HP; have HP := HPn; clear HPn; clear hg hgr))
      refine bodyPost_ret (v := .agg (by8 z32).toArray) (results_cell2 rfl _ _ (by rfl) (load_id HP.out 1 z32_len rfl)) rfl ?_
      exact ⟨rfl, Hp.closeR { s with err := x, fat := y } HM.out HI.out (HP.out.drop1.drop1.drop1)⟩
    | ok p =>
      obtain ⟨xs, a'⟩ := p
      have HRR := Aside0.mk hr
      have HAA := Aside0.mk (idP_ok hr).2
      have HXL := Aside0.mk (idP_ok hr).1
      clear hr
      go_enter Try.func35, Try.ntmps35
      go_wp2_with (first | ((with_reducible refine gate_dst (N := 1) rfl ?_); refine ev_boxv rfl 57 (.tmp 0) rfl (.pointer (some ⟨g, 0, none⟩)) rfl rfl ?_; intro b1 wa hge hg hb; have HPn := Aside0.mk (HP.out.newB hb hg hge); clear HP; have HP := HPn; clear HPn; clear hge hg hb) | ((with_reducible refine gate_dst (N := 2) rfl ?_); refine ev_alloc rfl 63 rfl (.agg (by8 z32).toArray) (by kernel_rfl) ?_; intro b2 wb hge hg hb; have HPn := Aside0.mk (HP.out.newB hb hg hge); clear HP; have HP := HPn; clear HPn; clear hge hg hb) | ((with_reducible refine gate_dst (N := 3) rfl ?_); refine ev_alloc rfl 63 rfl (.agg (by8 z32).toArray) (by kernel_rfl) ?_; intro b3 wc hge hg hb; have HPn := Aside0.mk (HP.out.newB hb hg hge); clear HP; have HP := HPn; clear HPn; clear hge hg hb; have hq1 : wc.cell? ⟨b1, 0, none⟩ = some (.pointer (some ⟨g, 0, none⟩)) := blk_cell (HP.out.blk 2 rfl) 0))
      clear hq1
      have CT := Aside0.mk (c_tryA HP.out 3 g (.slice A b.length c) s.fat (s.at_ : Int) rfl 71 #[.pointer (some ⟨b3, 0, none⟩), .pointer (some ⟨b1, 0, none⟩)] (fun w => HEN.out w b3 b1) (.blk b3 (.cells (by8 (xs)).toArray 63 (0, 0)) :: .blk b2 (.cells (by8 z32).toArray 63 (0, 0)) :: .blk b1 (.cells #[.pointer (some ⟨g, 0, none⟩)] 57 (0, 0)) :: .blk g (.cells (rC (.slice A b.length c) 0 s.fat (a' : Int)).toArray 93 (0, 0)) :: .row (Kd.int .u8) 5 w0.heap.size (.slice A b.length c) b :: Rs.set i .none) (fun t1 t2 t3 w1 h => (c_id1 (.blk t1 _) (.blk t2 _) (.blk t3 _) g A c b s.fat s.at_ HM.out.2.1 HM.out.2.2 HC.out HM.out.1 b3 b2 b1 h).mono fun e w' h9 => by
        unfold TxP at h9
        rw [HRR.out] at h9
        exact ⟨h9.1, h9.2.2⟩))
      refine CT.out.mono ?_; rintro e w2 ⟨rfl, hpn⟩
      clear CT HP
      have HP := Aside0.mk hpn
      clear hpn
      go_wp2_with (first | ((with_reducible refine gate_dst (N := 9) rfl ?_); refine ev_load rfl 63 (.tmp 3) rfl b3 rfl (HP.out.blk 0 rfl) Try.underlying63 rfl (by rw [List.size_toArray, by8_len, HXL.out]; kernel_rfl) ?_) | ((with_reducible refine gate_store (t := 63) (p := 2) rfl ?_); refine ev_store rfl 63 (.tmp 2) (.tmp 9) rfl rfl _ rfl (cells := (by8 xs).toArray) rfl (HP.out.blk 1 rfl) (by rw [List.size_toArray, by8_len, HXL.out]; kernel_rfl) (show (by8 z32).toArray.size = (by8 xs).toArray.size from by rw [List.size_toArray, List.size_toArray, by8_len, by8_len, z32_len, HXL.out]) (all_oneCell_toArray (one_by8 _)) ?_; intro wz hg hgr; have HPn := Aside0.mk (HP.out.setB 1 rfl hgr hg); clear HP; have HP := HPn; clear HPn; clear hg hgr))
      refine bodyPost_ret (v := .agg (by8 xs).toArray) (results_cell2 rfl _ _ (by rfl) (load_id HP.out 1 HXL.out rfl)) rfl ?_
      exact ⟨rfl, Hp.closeR { s with at_ := a' } ⟨HAA.out, HM.out.2⟩ HI.out (by have h := HP.out.drop1.drop1.drop1; rw [← he] at h; exact h)⟩
  · rw [if_pos he]
    go_enter Try.func35, Try.ntmps35
    go_wp2_with (first | ((with_reducible refine gate_dst (N := 1) rfl ?_); refine ev_boxv rfl 57 (.tmp 0) rfl (.pointer (some ⟨g, 0, none⟩)) rfl rfl ?_; intro b1 wa hge hg hb; have HPn := Aside0.mk (HP.out.newB hb hg hge); clear HP; have HP := HPn; clear HPn; clear hge hg hb) | ((with_reducible refine gate_dst (N := 2) rfl ?_); refine ev_alloc rfl 63 rfl (.agg (by8 z32).toArray) (by kernel_rfl) ?_; intro b2 wb hge hg hb; have HPn := Aside0.mk (HP.out.newB hb hg hge); clear HP; have HP := HPn; clear HPn; clear hge hg hb) | ((with_reducible refine gate_dst (N := 3) rfl ?_); refine ev_alloc rfl 63 rfl (.agg (by8 z32).toArray) (by kernel_rfl) ?_; intro b3 wc hge hg hb; have HPn := Aside0.mk (HP.out.newB hb hg hge); clear HP; have HP := HPn; clear HPn; clear hge hg hb; have hq1 : wc.cell? ⟨b1, 0, none⟩ = some (.pointer (some ⟨g, 0, none⟩)) := blk_cell (HP.out.blk 2 rfl) 0))
    clear hq1
    refine (c_tryN HP.out 3 g (.slice A b.length c) s.err s.fat (s.at_ : Int) rfl he _).mono ?_; rintro e w2 ⟨rfl, hpn⟩
    clear HP
    have HP := Aside0.mk hpn
    clear hpn
    go_wp2_with (first | ((with_reducible refine gate_dst (N := 8) rfl ?_); refine ev_run rfl (run_op_build _ _ (by rfl) [] (by rfl) (cells := (by8 z32).toArray) (by kernel_rfl)) ?_) | ((with_reducible refine gate_store (t := 63) (p := 2) rfl ?_); refine ev_store rfl 63 (.tmp 2) (.tmp 8) rfl rfl _ rfl (cells := (by8 z32).toArray) rfl (HP.out.blk 1 rfl) (by rw [List.size_toArray, by8_len, z32_len]; kernel_rfl) rfl (all_oneCell_toArray (one_by8 _)) ?_; intro wz hg hgr; have HPn := Aside0.mk (HP.out.setB 1 rfl hgr hg); clear HP; have HP := HPn; clear HPn; clear hg hgr))
    refine bodyPost_ret (v := .agg (by8 z32).toArray) (results_cell2 rfl _ _ (by rfl) (load_id HP.out 1 z32_len rfl)) rfl ?_
    exact ⟨rfl, Hp.closeR s HM.out HI.out (HP.out.drop1.drop1.drop1)⟩
end Go.Proofs.Ytlgnfbgjdkbfoaa.Wd
namespace Go.Proofs.Ytlgnfbgjdkbfoaa.Wd
open Go.RowKit Go.Proofs.YtlgnfbgjdkbfoaaW.PrintWords Go.Proofs.YtlgnfbgjdkbfoaaW.PrintLast Go.Proofs.YtlgnfbgjdkbfoaaW.PrintMore Go.Proofs.YtlgnfbgjdkbfoaaXe Go.Proofs.YtlgnfbgjdkbfoaaXs
set_option linter.unusedVariables false
set_option linter.unusedSimpArgs false
attribute [local go_sem ↓] Go.wp_at_zero Go.wp_at_succ
/-- a writer's cells -/
def wC (v : Value) (err : Int) : List Value := [.bool true, v, .int .i64 err, .int .i64 0]
def wrtP (xs : List Int) (err : Int) (v : Value) : Prop := ∀ x ∈ xs, 0 ≤ x ∧ x < 256
def wrtL (base g : Nat) (xs : List Int) (err : Int) (v : Value) : List Res :=
  [.blk g (.cells (wC v err).toArray 106 (0, 0)), .row (Kd.int .u8) 5 base v xs]
def rWriter (base g : Nat) (xs : List Int) (err : Int) : Res := .ex fun v => .fact (wrtP xs err v) (.all (wrtL base g xs err v))
theorem Hp.closeW {w0 w : World} {Rs : List Res} (xs : List Int) (err : Int) {i base g : Nat} {v : Value} (hm : ∀ x ∈ xs, 0 ≤ x ∧ x < 256) (hl : i < Rs.length)
    (h : Hp w0 w (.blk g (.cells (wC v err).toArray 106 (0, 0)) :: .row (Kd.int .u8) 5 base v xs :: Rs.set i .none)) : Hp w0 w (Rs.set i (rWriter base g xs err)) :=
  Hp.closeE (p := wrtP xs err) (wrtL base g xs err) v hm i hl h
/-- a number's bytes -/
def encF : Nat → Int → List Int
  | 0, n => [n]
  | d + 1, n => if 127 < n then (n % 128 + 128) :: encF d (n / 128) else [n]
def encN (n : Int) : List Int := encF 9 n
theorem encF_len : ∀ (d : Nat) (n : Int), (encF d n).length ≤ d + 1
  | 0, n => by simp [encF]
  | d + 1, n => by
    unfold encF
    split
    · have := encF_len d (n / 128); simp; omega
    · simp
theorem encF_byte : ∀ (d : Nat) (n : Int), 0 ≤ n → n < 128 ^ (d + 1) → ∀ x ∈ encF d n, 0 ≤ x ∧ x < 256
  | 0, n, h0, h1, x, hx => by simp [encF] at hx; subst hx; simp at h1; omega
  | d + 1, n, h0, h1, x, hx => by
    unfold encF at hx
    split at hx
    · rcases List.mem_cons.1 hx with rfl | h
      · omega
      · refine encF_byte d (n / 128) (by omega) ?_ x h
        have : (128 : Int) ^ (d + 1 + 1) = 128 ^ (d + 1) * 128 := Int.pow_succ _ _
        rw [this] at h1
        exact Int.ediv_lt_of_lt_mul (by decide) h1
    · simp at hx; subst hx; omega
theorem lt128 {n : Int} (h : n ≤ 9223372036854775807) : n < 128 ^ (9 + 1) := by
  have h9 : (128 : Int) ^ (9 + 1) = 1180591620717411303424 := by decide
  rw [h9]; omega
theorem i64_and127 {x : Int} (h₀ : 0 ≤ x) (h₁ : x < 2 ^ 63) : bits .and .i64 x 127 = x % 128 := bits_mask .i64 63 (by decide) wraps_i64 7 (by decide) x h₀ h₁
theorem i64_or128 {y : Int} (h₀ : 0 ≤ y) (h₁ : y < 128) : bits .or .i64 y 128 = y + 128 := or_low 7 y 128 h₀ h₁ (by omega) (by decide) (by decide) (by decide)
set_option maxHeartbeats 8000000 in
set_option maxRecDepth 100000 in
theorem c_absent (g : Nat) (v : Value) (err : Int) (w : World) (hg : w.heap[g]? = some (.cells (wC v err).toArray 106 (0, 0))) :
    Calls Try.prog 77 #[.pointer (some ⟨g, 0, none⟩)] w fun e w' => e = .returned (.bool false) ∧ w' = w := by
  have h0 : w.cell? ⟨g, 0, none⟩ = some (.bool true) := blk_cell hg 0
  clear hg
  have CB := Aside0.mk (show Calls Try.prog 68 #[.pointer (some ⟨g, 0, none⟩)] w fun e w' => e = .returned (.bool false) ∧ w' = w from by
    go_enter Try.func68, Try.ntmps68
    go_wp2_with fail
    go_ret
    exact ⟨rfl, rfl⟩)
  clear h0
  go_enter Try.func77, Try.ntmps77
  go_wp2_with fail
  refine CB.out.mono ?_; rintro e w_ ⟨rfl, rfl⟩
  go_wp2_with fail
  go_ret
  exact ⟨rfl, rfl⟩
set_option maxHeartbeats 8000000 in
set_option maxRecDepth 100000 in
theorem c_wnew {w0 w : World} {Rs : List Res} (HP : Hp w0 w Rs) :
    Calls Try.prog 49 #[] w fun e w' => ∃ g, e = .returned (.pointer (some ⟨g, 0, none⟩)) ∧ Hp w0 w' (rWriter w0.heap.size g [] 0 :: Rs) := by
  have HPa := Aside0.mk HP
  clear HP
  go_enter Try.func49, Try.ntmps49
  go_wp2_with fail
  have h := HPa.out.alloc (.cells (wC (.slice none 0 0) 0).toArray 106 (0, 0))
  have h2 := (h.nilrow (Kd.int .u8) 5 (.slice none 0 0) (xs := []) (fun ok => Kd.R_nil _ _ _ _ ok)).rot1
  go_ret
  have h9 : Hp w0 (w.alloc (.cells (wC (.slice none 0 0) 0).toArray 106 (0, 0))) (wrtL w0.heap.size w.heap.size [] 0 (.slice none 0 0) ++ Rs) := h2
  exact ⟨w.heap.size, rfl, Hp.closeE0 (p := wrtP [] 0) (wrtL w0.heap.size w.heap.size [] 0) (.slice none 0 0) (fun x hx => by cases hx) h9⟩
set_option maxHeartbeats 8000000 in
set_option maxRecDepth 100000 in
theorem c_wint {w0 w : World} {Rs : List Res} (HP : Hp w0 w Rs) (i g : Nat) (xs : List Int) (err : Int) (hi : Rs[i]? = some (rWriter w0.heap.size g xs err)) (n : Int) (h0 : 0 ≤ n) (h1 : n ≤ 9223372036854775807) (hx : xs.length ≤ 100000000000) :
    Calls Try.prog 50 #[.pointer (some ⟨g, 0, none⟩), .int .i64 n] w fun e w' => e = .returned (.tuple #[]) ∧ Hp w0 w' (Rs.set i (rWriter w0.heap.size g (xs ++ encN n) err)) := by
  have HSELF := Aside0.mk (show Rs.set i (rWriter w0.heap.size g xs err) = Rs from set_self hi)
  obtain ⟨v, hm, HP0⟩ := HP.openE i hi
  have HP1 : Hp w0 w (.blk g (.cells (wC v err).toArray 106 (0, 0)) :: .row (Kd.int .u8) 5 w0.heap.size v xs :: Rs.set i .none) := HP0
  have hil : i < Rs.length := (List.getElem?_eq_some_iff.1 hi).1
  have hm2 : ∀ x ∈ xs, 0 ≤ x ∧ x < 256 := hm
  have HPn := Aside0.mk HP1
  have HM := Aside0.mk hm2
  have HI := Aside0.mk hil
  clear HP HP0 HP1 hm hm2 hil hi
  have HP := HPn
  clear HPn
  obtain ⟨A, c, rfl⟩ := Kd.R_slice (HP.out.row 1 rfl)
  have HX := Aside0.mk hx
  have HN := Aside0.mk (And.intro h0 h1)
  have HEB := Aside0.mk (show ∀ x ∈ encN n, 0 ≤ x ∧ x < 256 from encF_byte 9 n h0 (lt128 h1))
  have d1 : decide (n < 0) = false := decide_eq_false (by omega)
  clear hx
  go_enter Try.func50, Try.ntmps50
  go_wp2_with fail
  refine (c_absent g _ err _ (HP.out.blk 0 rfl)).mono ?_; rintro e wa ⟨rfl, rfl⟩
  go_wp2_with fail
  clear d1
  go_loopg [1] 9 (fun kq v1 w' => ∃ (m : Int) (v : Value) (ys : List Int), v1 = .int .i64 m ∧ Aside0 (0 ≤ m ∧ m < 128 ^ (kq + 1) ∧ m ≤ 9223372036854775807) ∧ Aside0 (ys ++ encF kq m = xs ++ encN n ∧ ys.length + kq ≤ xs.length + 9) ∧ Aside0 (Hp w0 w' (.blk g (.cells (wC v err).toArray 106 (0, 0)) :: .row (Kd.int .u8) 5 w0.heap.size v ys :: Rs.set i .none)))
  case atStart => exact ⟨n, _, xs, rfl, ⟨by have := HN.out; exact ⟨this.1, lt128 this.2, this.2⟩⟩, ⟨rfl, Nat.le_refl _⟩, HP⟩
  clear HP h0 h1
  obtain ⟨m, v, ys, rfl, HMM, HY, HP⟩ := hrel
  obtain ⟨A2, c2, rfl⟩ := Kd.R_slice (HP.out.row 1 rfl)
  have h1 : wr.cell? ⟨g, 1, none⟩ = some (.slice A2 ys.length c2) := blk_cell (HP.out.blk 0 rfl) 1
  obtain ⟨m0, m1, m2⟩ := HMM.out
  by_cases c1 : 127 < m
  · have d1 : decide (127 < m) = true := decide_eq_true c1
    obtain ⟨K, rfl⟩ : ∃ z, gk = z + 1 := ⟨gk - 1, by
      rcases gk with _ | k
      · simp at m1; omega
      · omega⟩
    obtain ⟨r, hr⟩ : ∃ z, m % 128 = z := ⟨_, rfl⟩
    have r0 : 0 ≤ r := by omega
    have r1 : r < 128 := by omega
    have f1 : bits .and .i64 m 127 = r := by rw [← hr]; exact i64_and127 m0 (by omega)
    have f2 : bits .or .i64 r 128 = r + 128 := i64_or128 r0 r1
    obtain ⟨q, hq⟩ : ∃ z, m / 128 = z := ⟨_, rfl⟩
    have HQ := Aside0.mk hq
    have HRR := Aside0.mk hr
    have HC1 := Aside0.mk c1
    clear hr hq c1
    go_wp2_with (first | ((with_reducible refine gate_dst (N := 28) rfl ?_); have HPl := Aside0.mk (HP.out.alloc (.cells #[.int .u8 (r + 128)] 5 (0, 0))); refine ev_append (plain_int .u8) HPl.out 2 rfl (.tmp 22) (.tmp 27) 22 5 (.int .u8 0) 1 rfl Try.underlying22 info8 rfl (by decide) (by decide) (.slice A2 ys.length c2) ys [r + 128] (some ⟨wr.heap.size, 0, none⟩) 1 1 rfl rfl rfl (C_blk1 (Kd.int .u8) (HPl.out.blk 0 rfl) rfl) (by have := HY.out.2; have := HX.out; omega) ?_; intro v_a wq hpn; clear HP HPl; have HP := Aside0.mk hpn; clear hpn; obtain ⟨A3, c3, rfl⟩ := Kd.R_slice (HP.out.row 2 rfl); simp only [List.length_append, List.length_cons, List.length_nil, Nat.zero_add] at HP; have hc1 : wq.cell? ⟨g, 1, none⟩ = some (.slice A2 ys.length c2) := blk_cell (HP.out.blk 1 rfl) 1; have hf1 := frozC (HP.out.blk 1 rfl) 1))
    have HPn := Aside0.mk (HP.out.setCell 1 rfl 1 (.slice A3 (ys.length + 1) c3)).drop1
    clear HP
    go_roundg K
    case measure => omega
    case rel => exact ⟨m / 128, .slice A3 (ys.length + 1) c3, ys ++ [r + 128], by first | rfl | simp, ⟨by omega, by
      have h9 := HMM.out.2.1
      have : (128 : Int) ^ (K + 1 + 1) = 128 ^ (K + 1) * 128 := Int.pow_succ _ _
      rw [this] at h9
      exact Int.ediv_lt_of_lt_mul (by decide) h9, by omega⟩, ⟨by
      have h9 := HY.out.1
      rw [encF, if_pos HC1.out, HRR.out] at h9
      rw [← h9, List.append_assoc]
      rfl, by have := HY.out.2; simp; omega⟩, ⟨by have h := HPn.out; exact h⟩⟩
  · have d1 : decide (127 < m) = false := decide_eq_false c1
    have f1 : IntKind.u8.wrap m = m := by rw [IntKind.wrap_u8]; omega
    have f2 : m % 256 = m := by omega
    have HE := Aside0.mk (show ys ++ [m] = xs ++ encN n by have h9 := HY.out.1; rw [← h9]; cases gk with | zero => rfl | succ k => rw [encF, if_neg c1])
    have HMB := Aside0.mk (show 0 ≤ m ∧ m < 256 by omega)
    clear c1
    go_wp2_with (first | ((with_reducible refine gate_dst (N := 41) rfl ?_); have HPl := Aside0.mk (HP.out.alloc (.cells #[.int .u8 (m)] 5 (0, 0))); refine ev_append (plain_int .u8) HPl.out 2 rfl (.tmp 37) (.tmp 40) 22 5 (.int .u8 0) 1 rfl Try.underlying22 info8 rfl (by decide) (by decide) (.slice A2 ys.length c2) ys [m] (some ⟨wr.heap.size, 0, none⟩) 1 1 rfl rfl rfl (C_blk1 (Kd.int .u8) (HPl.out.blk 0 rfl) rfl) (by have := HY.out.2; have := HX.out; omega) ?_; intro v_a wq hpn; clear HP HPl; have HP := Aside0.mk hpn; clear hpn; obtain ⟨A3, c3, rfl⟩ := Kd.R_slice (HP.out.row 2 rfl); simp only [List.length_append, List.length_cons, List.length_nil, Nat.zero_add] at HP; have hc1 : wq.cell? ⟨g, 1, none⟩ = some (.slice A2 ys.length c2) := blk_cell (HP.out.blk 1 rfl) 1; have hf1 := frozC (HP.out.blk 1 rfl) 1))
    have HPn := (HP.out.setCell 1 rfl 1 (.slice A3 (ys.length + 1) c3)).drop1
    refine bodyPost_end (v := .tuple #[]) (by simp [results, Try.results50, go_sem]) rfl ?_
    exact ⟨rfl, by rw [← HE.out]; exact Hp.closeW (ys ++ [m]) err (by rw [HE.out]; intro x hx; rcases List.mem_append.1 hx with h | h; exact HM.out x h; exact HEB.out x h) HI.out HPn⟩
end Go.Proofs.Ytlgnfbgjdkbfoaa.Wd
namespace Go.Proofs.Ytlgnfbgjdkbfoaa.Wd
open Go.RowKit Go.Proofs.YtlgnfbgjdkbfoaaW.PrintWords Go.Proofs.YtlgnfbgjdkbfoaaW.PrintLast Go.Proofs.YtlgnfbgjdkbfoaaW.PrintMore Go.Proofs.YtlgnfbgjdkbfoaaXe Go.Proofs.YtlgnfbgjdkbfoaaXs
set_option linter.unusedVariables false
set_option linter.unusedSimpArgs false
attribute [local go_sem ↓] Go.wp_at_zero Go.wp_at_succ
theorem run_append_str_at {P : Program} {w : World} {base : Nat} {t u ty e : TypeId} {i : TypeInfo} (ht : P.underlying t = some (.slice e)) (hu : P.underlying u = some .string) (hi : P.info? e = some i) (hz : i.zero = some (.int .u8 0)) (hsize : i.size = 1) (hby : i.bytes = 1)
    {v : Value} {n : Nat} {xs : List Value} (hown : w.ownsRow base e 1 v n xs) (s : ByteArray) (h63 : n + s.size ≤ maxLen) (hbytes : n + s.size ≤ 140737488355328) (hbase : base ≤ w.heap.size) :
    ∃ v' w', (Builtin.append_ #[t, u] ty #[v, .string s]).run P w = .ok v' w' ∧ w'.ownsRow base e 1 v' (n + s.size) (xs ++ Lib.strCells s) ∧ w.grownBy w' v.ownBlock ∧ ∀ k, v'.ownBlock = some k → v.ownBlock = some k ∨ w.heap.size ≤ k := by
  obtain ⟨v', w', hr, h2, h3, _⟩ := Lib.run_append_own_string (P := P) w base t u ty e i ht hu hi hz hsize hby v n xs hown s h63 hbytes hbase
  refine ⟨v', w', hr, h2, h3, ?_⟩
  have hxl : xs.length = n := by simpa using hown.1
  have hsm : n + s.size ≤ 9223372036854775807 := by simpa only [maxLen] using h63
  rcases hown.2 with ⟨rfl, rfl⟩ | ⟨g, cap, cur, rfl, hbg, hg, hnc, hcm, hcs, htake⟩
  · intro k hk
    rcases h2.2 with ⟨rfl, _⟩ | ⟨g, cap, cur, rfl, _, hg, _⟩
    · simp [Value.ownBlock] at hk
    · refine .inr ?_
      have hgk : g = k := by simpa [Value.ownBlock] using hk
      subst hgk
      by_cases hm : s.size = 0
      · have hf := Lib.run_firstCells_string (P := P) w 1 s
        rw [hm] at hf
        have : (Builtin.append_ #[t, u] ty #[.slice none 0 0, .string s]).run P w = .ok (.slice none 0 0) w := by
          simp [Builtin.append_, run_underlying ht, run_underlying hu, sizeOf, typeInfo, hi, hsize, Builtin.lenOf, hm, hf]
        rw [hr] at this
        injection this with h5
        cases h5
      · have hr2 := run_append_nil_string (P := P) w t u ty e i (.int .u8 0) ht hu hi hz s (by omega) (by omega) (by rw [hby]; omega)
        rw [hr] at hr2
        injection hr2 with h5 _
        injection h5 with h6
        injection h6 with h7
        injection h7 with h8
        omega
  · intro k hk
    by_cases hroom : n + s.size ≤ cap
    · have hcs' : cur.size = cap := by simpa using hcs
      have hr2 := Lib.run_append_room_string (P := P) w t u ty e i ht hu hi hsize g n cap cur hg s hroom (by omega)
      rw [hr] at hr2
      injection hr2 with h5 _
      subst h5
      exact .inl hk
    · have holds : ∀ j u, xs[j]? = some u → w.cell? ((⟨g, 0, none⟩ : Addr).add j) = some u := hown.cells (g := g) rfl
      have hr2 := Lib.run_append_grow_string (P := P) w t u ty e i (.int .u8 0) ht hu hi hz ⟨g, 0, none⟩ n cap xs (by rw [hsize]; simpa using hxl) holds s (by omega) (by omega) (by rw [hby]; exact growslice_fits (by omega) (by omega))
      rw [hr] at hr2
      injection hr2 with h5 _
      subst h5
      refine .inr ?_
      have : w.heap.size = k := by simpa [Value.ownBlock] using hk
      omega
section
variable {P : Program} {ops : Array Oper} {rest : List Oper} {o : Oper} {a : Act} {Q : Exit → Act → World → Prop} {W w0 : World} {Rs : List Res}
theorem ev_append_str (HP : Hp w0 W Rs) (i : Nat) (hw : Region.wanted o (yielded ops a.tmps) = true) (s x : Operand) (t u e : TypeId)
    (ho : o.op = .call { callee := .builtin .append, args := #[s, x], argTypes := #[t, u] }) (ht : P.underlying t = some (.slice e)) (hu : P.underlying u = some .string) (hinfo : (P.info? e).map (fun i => (i.zero, i.size, i.bytes)) = some (some (.int .u8 0), 1, 1))
    (v : Value) (xs : List Int) (y : ByteArray) (hs : a.eval s = v) (hx : a.eval x = .string y) (hi : Rs[i]? = some (.row (Kd.int .u8) e w0.heap.size v xs)) (hl : xs.length + y.size ≤ 140737488355328)
    (h : ∀ v1 w1, Hp w0 w1 (Rs.set i (.row (Kd.int .u8) e w0.heap.size v1 (xs ++ bytesOf y))) → wpList P ops Q rest (a.put o.dst v1) w1) : wpList P ops Q (o :: rest) a W := by
  obtain ⟨i0, hi0, hzz⟩ := Option.map_eq_some_iff.1 hinfo
  simp only [Prod.mk.injEq] at hzz
  obtain ⟨hz0, hz1, hz2⟩ := hzz
  obtain ⟨F, hR, _, _, hup⟩ := HP.setR i hi
  have hown := Kd.own_of_R hR
  obtain ⟨v', w', hr, h2, h3, h4⟩ := run_append_str_at (P := P) (ty := o.type) ht hu hi0 hz0 hz1 hz2 hown y (by simp only [maxLen]; omega) hl HP.size
  refine ev_run hw (w1 := w') (v := v') ?_ (h v' w' ?_)
  · unfold execOp
    simp only [ho, resolve, invoke, builtin, Sem.run_bind, Sem.run_pure, Result.andThen_ok, List.map_toArray, List.map_cons, List.map_nil, hs, hx, hr]
  · have hl2 : (xs ++ bytesOf y).length = xs.length + y.size := by rw [List.length_append, bytesOf_length]
    have hc : encs (Value.int .u8) (xs ++ bytesOf y) = encs (Value.int .u8) xs ++ Lib.strCells y := by simp [encs, bytesOf, Lib.strCells]
    refine hup w' (d2 := Kd.int .u8) (e2 := e) (ok := fun k => F k ∨ W.heap.size ≤ k) v' _ (Kd.R_of_own (by rw [hl2, hc]; exact h2) fun k hk => ?_) (fun k hk => hk) (HP.below.grown h3 HP.size (own_base hown)) ⟨h3.size, fun k hk hF => h3.block k hk fun e => hF (hR.1 k e.symm)⟩
    rcases h4 k hk with h5 | h5
    · exact .inl (hR.1 k h5)
    · exact .inr h5
end
theorem bytesOf_byte (s : ByteArray) : ∀ x ∈ bytesOf s, 0 ≤ x ∧ x < 256 := by
  intro x hx
  obtain ⟨b, _, rfl⟩ := List.mem_map.1 hx
  have := b.toNat_lt
  omega
set_option maxHeartbeats 8000000 in
set_option maxRecDepth 100000 in
theorem c_wtext {w0 w : World} {Rs : List Res} (HP : Hp w0 w Rs) (i g : Nat) (xs : List Int) (err : Int) (hi : Rs[i]? = some (rWriter w0.heap.size g xs err)) (y : ByteArray) (hy : y.size ≤ 100000000) (hx : xs.length ≤ 10000000000) :
    Calls Try.prog 53 #[.pointer (some ⟨g, 0, none⟩), .string y] w fun e w' => e = .returned (.tuple #[]) ∧ Hp w0 w' (Rs.set i (rWriter w0.heap.size g (xs ++ encN (y.size : Int) ++ bytesOf y) err)) := by
  have HI0 := Aside0.mk (List.getElem?_eq_some_iff.1 hi).1
  have HAB := Aside0.mk (by
    obtain ⟨v, hm, HP0⟩ := HP.openE i hi
    exact c_absent g v err w (HP0.blk 0 rfl))
  have CI := Aside0.mk (c_wint HP i g xs err hi (y.size : Int) (by omega) (by omega) (by omega))
  have HXE := Aside0.mk (show xs.length ≤ 10000000000 ∧ y.size ≤ 100000000 from ⟨hx, hy⟩)
  clear hx hy hi
  have HLE := Aside0.mk (show (xs ++ encN (y.size : Int)).length ≤ 20000000000 by have h1 := encF_len 9 (y.size : Int); have h2 := HXE.out; rw [List.length_append]; unfold encN; omega)
  obtain ⟨ys, hys⟩ : ∃ z, xs ++ encN (y.size : Int) = z := ⟨_, rfl⟩
  rw [hys] at CI HLE
  rw [hys]
  clear hys
  go_enter Try.func53, Try.ntmps53
  go_wp2_with fail
  refine HAB.out.mono ?_; rintro e wa ⟨rfl, rfl⟩
  go_wp2_with fail
  refine CI.out.mono ?_; rintro e wb ⟨rfl, hpn⟩
  clear HP CI HAB
  obtain ⟨v, hm, HP0⟩ := hpn.openE i (set_get _ HI0.out)
  have HP := Aside0.mk (show Hp w0 wb (.blk g (.cells (wC v err).toArray 106 (0, 0)) :: .row (Kd.int .u8) 5 w0.heap.size v ys :: Rs.set i .none) from by have h := HP0; rw [List.set_set] at h; exact h)
  have HM := Aside0.mk (show ∀ x ∈ ys, 0 ≤ x ∧ x < 256 from hm)
  clear hpn HP0 hm
  obtain ⟨A2, c2, rfl⟩ := Kd.R_slice (HP.out.row 1 rfl)
  have h1 : wb.cell? ⟨g, 1, none⟩ = some (.slice A2 ys.length c2) := blk_cell (HP.out.blk 0 rfl) 1
  go_wp2_with (first | ((with_reducible refine gate_dst (N := 17) rfl ?_); refine ev_append_str HP.out 1 rfl (.tmp 15) (.tmp 16) 22 9 5 rfl Try.underlying22 Try.underlying9 info8 (.slice A2 ys.length c2) ys y rfl rfl rfl (by have := HLE.out; have := HXE.out; omega) ?_; intro v_a wq hpn; clear HP; have HP := Aside0.mk hpn; clear hpn; obtain ⟨A3, c3, rfl⟩ := Kd.R_slice (HP.out.row 1 rfl); rw [List.length_append, bytesOf_length] at HP; rw [List.length_append, bytesOf_length]; have hc1 : wq.cell? ⟨g, 1, none⟩ = some (.slice A2 ys.length c2) := blk_cell (HP.out.blk 0 rfl) 1; have hf1 := frozC (HP.out.blk 0 rfl) 1))
  have HPn := HP.out.setCell 0 rfl 1 (.slice A3 (ys.length + y.size) c3)
  refine bodyPost_end (v := .tuple #[]) (by simp [results, Try.results53, go_sem]) rfl ?_
  exact ⟨rfl, Hp.closeW (ys ++ bytesOf y) err (fun x hx => by rcases List.mem_append.1 hx with h | h; exact HM.out x h; exact bytesOf_byte y x h) HI0.out HPn⟩
end Go.Proofs.Ytlgnfbgjdkbfoaa.Wd
namespace Go.Proofs.Ytlgnfbgjdkbfoaa.Wd
open Go.RowKit Go.Proofs.YtlgnfbgjdkbfoaaW.PrintWords Go.Proofs.YtlgnfbgjdkbfoaaW.PrintLast Go.Proofs.YtlgnfbgjdkbfoaaW.PrintMore Go.Proofs.YtlgnfbgjdkbfoaaXe Go.Proofs.YtlgnfbgjdkbfoaaXs
set_option linter.unusedVariables false
set_option linter.unusedSimpArgs false
attribute [local go_sem ↓] Go.wp_at_zero Go.wp_at_succ
theorem C_by8 {w : World} {g : Nat} {l : List Int} {t : TypeId} {fr : Nat × Nat} (hg : w.heap[g]? = some (.cells (by8 l).toArray t fr)) {n : Nat} (hl : l.length = n) (hn : n ≤ 9223372036854775807) : (Kd.int .u8).C w (some ⟨g, 0, none⟩) n l := by
  subst hl
  exact C_ints hn (fun j x hj => by rw [add_at, Nat.zero_add, cell_of_row w g _ _ t fr hg]; simp [by8, hj])
theorem rotl {w0 w : World} {R : Res} {l Rs : List Res} (h : Hp w0 w (R :: (l ++ Rs))) : Hp w0 w (l ++ (R :: Rs)) := by
  obtain ⟨hb, G, hs⟩ := h
  cases hs with
  | @cons _ _ F G1 h1 h2 h3 h4 =>
    obtain ⟨G2, G3, k1, k2, k3, k4, k5⟩ := Sp.split l h3
    obtain ⟨G', s1, _⟩ := Sp.append k1 (.cons h1 h2 k2 fun k hk hg => h4 k hk (k5 k hg)) (fun k hk hg => by
      rcases hg with hg | hg
      · exact h4 k hg (k4 k hk)
      · exact k3 k hk hg)
    exact ⟨hb, G', s1⟩
theorem results_two2 {P : Program} {fn : Func} {p p2 : Tmp} (h : fn.results = #[.tmp p, .tmp p2]) (tmps : Array Value) (w : World) {v v2 : Value} (hp : tmps.getD p undef = v) (hp2 : tmps.getD p2 undef = v2) : (results fn tmps).run P w = .ok (.tuple #[v, v2]) w := by
  have hp' : tmps[p]?.getD undef = v := by simpa using hp
  have hp2' : tmps[p2]?.getD undef = v2 := by simpa using hp2
  simp [results, h, hp', hp2']
set_option maxHeartbeats 8000000 in
set_option maxRecDepth 100000 in
theorem c_wid {w0 w : World} {Rs : List Res} (HP : Hp w0 w Rs) (i g : Nat) (xs : List Int) (err : Int) (hi : Rs[i]? = some (rWriter w0.heap.size g xs err)) (d : List Int) (hd : d.length = 32) (hdb : ∀ x ∈ d, 0 ≤ x ∧ x < 256) (hx : xs.length ≤ 100000000000) :
    Calls Try.prog 57 #[.pointer (some ⟨g, 0, none⟩), .agg (by8 d).toArray] w fun e w' => e = .returned (.tuple #[]) ∧ Hp w0 w' (Rs.set i (rWriter w0.heap.size g (xs ++ d) err)) := by
  have HSELF := Aside0.mk (show Rs.set i (rWriter w0.heap.size g xs err) = Rs from set_self hi)
  obtain ⟨v, hm, HP0⟩ := HP.openE i hi
  have HP1 : Hp w0 w (.blk g (.cells (wC v err).toArray 106 (0, 0)) :: .row (Kd.int .u8) 5 w0.heap.size v xs :: Rs.set i .none) := HP0
  have hil : i < Rs.length := (List.getElem?_eq_some_iff.1 hi).1
  have hm2 : ∀ x ∈ xs, 0 ≤ x ∧ x < 256 := hm
  have HPn := Aside0.mk HP1
  have HM := Aside0.mk hm2
  have HI := Aside0.mk hil
  clear HP HP0 HP1 hm hm2 hil hi
  have HP := HPn
  clear HPn
  obtain ⟨A, c, rfl⟩ := Kd.R_slice (HP.out.row 1 rfl)
  have HX := Aside0.mk hx
  have HD := Aside0.mk (And.intro hd hdb)
  have hcut : ∀ (g : Nat) (w : World), (Instr.sliceAt 63 (.pointer (some ⟨g, 0, none⟩)) none none none).run Try.prog w = .ok (.slice (some ⟨g, 0, none⟩) 32 32) w := fun g w => run_cut_all (P := Try.prog) Try.underlying63 (by kernel_rfl) (by decide) g 0 w
  clear hx hd hdb
  go_enter Try.func57, Try.ntmps57
  go_wp2_with (first | ((with_reducible refine gate_dst (N := 3) rfl ?_); refine ev_box rfl 63 (.tmp 1) rfl ((by8 d).toArray) rfl ?_; intro b3 wa hge hg hb; have HPn := Aside0.mk (HP.out.newB hb hg hge); clear HP; have HP := HPn; clear HPn; clear hge hg hb))
  refine (c_absent g _ err _ (HP.out.blk 1 rfl)).mono ?_; rintro e wb ⟨rfl, rfl⟩
  go_wp2_with fail
  refine last_named (ds := [11]) (S := (fun w' => w'.cell? ⟨g, 1, none⟩ = some (.slice A xs.length c))) (by kernel_rfl) (fun wd2 hwd2 => ?_)
  have HPn := Aside0.mk (HP.out.drewN 1)
  rw [← World.drew_is_drewN, hwd2] at HPn
  clear HP hwd2
  have HP := HPn
  clear HPn
  refine ⟨by (try dsimp only); exact blk_cell (HP.out.blk 1 rfl) 1, fun hHeld => ?_⟩
  refine wpAnyLast_take (i := 0) (oi := ({ dst := (some 7), op := (Op.move (Operand.tmp 0)), type := 74, pos := "word.go:50", after := #[], guard := none } : Oper)) (v := ?_) rfl (by kernel_rfl) (by kernel_rfl) (by kernel_rfl) (by kernel_rfl) (by kernel_rfl) (fun _ _ _ h => h) (Or.inl ⟨by rfl, ?_⟩) hHeld ?_
  rotate_left
  · intro w_ hSw; (try dsimp only at hSw); go_simp; try (with_reducible rfl)
  try simp only [Act.put, List.setIfInBounds_toArray, List.set_cons_zero, List.set_cons_succ]
  refine wpAnyLast_take (i := 1) (oi := ({ dst := (some 8), op := (Op.move (Operand.tmp 0)), type := 74, pos := "word.go:50", after := #[], guard := none } : Oper)) (v := ?_) rfl (by kernel_rfl) (by kernel_rfl) (by kernel_rfl) (by kernel_rfl) (by kernel_rfl) (fun _ _ _ h => h) (Or.inl ⟨by rfl, ?_⟩) hHeld ?_
  rotate_left
  · intro w_ hSw; (try dsimp only at hSw); go_simp; try (with_reducible rfl)
  try simp only [Act.put, List.setIfInBounds_toArray, List.set_cons_zero, List.set_cons_succ]
  refine wpAnyLast_take (i := 2) (oi := ({ dst := (some 9), op := (Op.nilCheck (Operand.tmp 8)), type := 0, pos := "word.go:50", after := #[{ on := 1, ground := Ground.data }], guard := none } : Oper)) (v := ?_) rfl (by kernel_rfl) (by kernel_rfl) (by kernel_rfl) (by kernel_rfl) (by kernel_rfl) (fun _ _ _ h => h) (Or.inl ⟨by rfl, ?_⟩) hHeld ?_
  rotate_left
  · intro w_ hSw; (try dsimp only at hSw); go_simp; try (with_reducible rfl)
  try simp only [Act.put, List.setIfInBounds_toArray, List.set_cons_zero, List.set_cons_succ]
  refine wpAnyLast_take (i := 3) (oi := ({ dst := (some 10), op := (Op.fieldAddr 106 (Operand.tmp 9) 0), type := 0, pos := "word.go:50", after := #[{ on := 2, ground := Ground.data }], guard := none } : Oper)) (v := ?_) rfl (by kernel_rfl) (by kernel_rfl) (by kernel_rfl) (by kernel_rfl) (by kernel_rfl) (fun _ _ _ h => h) (Or.inl ⟨by rfl, ?_⟩) hHeld ?_
  rotate_left
  · intro w_ hSw; (try dsimp only at hSw); go_simp; try (with_reducible rfl)
  try simp only [Act.put, List.setIfInBounds_toArray, List.set_cons_zero, List.set_cons_succ]
  refine wpAnyLast_take (i := 4) (oi := ({ dst := (some 11), op := (Op.fieldAddr 91 (Operand.tmp 10) 1), type := 0, pos := "word.go:50", after := #[{ on := 3, ground := Ground.data }], guard := none } : Oper)) (v := ?_) rfl (by kernel_rfl) (by kernel_rfl) (by kernel_rfl) (by kernel_rfl) (by kernel_rfl) (fun _ _ _ h => h) (Or.inl ⟨by rfl, ?_⟩) hHeld ?_
  rotate_left
  · intro w_ hSw; (try dsimp only at hSw); go_simp; try (with_reducible rfl)
  try simp only [Act.put, List.setIfInBounds_toArray, List.set_cons_zero, List.set_cons_succ]
  refine wpAnyLast_take (i := 5) (oi := ({ dst := (some 12), op := (Op.load 22 (Operand.tmp 11)), type := 22, pos := "word.go:50", after := #[{ on := 4, ground := Ground.data }], guard := none } : Oper)) (v := ?_) rfl (by kernel_rfl) (by kernel_rfl) (by kernel_rfl) (by kernel_rfl) (by kernel_rfl) (fun _ _ _ h => h) (Or.inl ⟨by rfl, ?_⟩) hHeld ?_
  rotate_left
  · intro w_ hSw; (try dsimp only at hSw); go_simp; try (with_reducible rfl)
  try simp only [Act.put, List.setIfInBounds_toArray, List.set_cons_zero, List.set_cons_succ]
  refine wpAnyLast_take (i := 6) (oi := ({ dst := (some 13), op := (Op.slice 63 (Operand.tmp 3) none none none), type := 22, pos := "word.go:50", after := #[], guard := none } : Oper)) (v := ?_) rfl (by kernel_rfl) (by kernel_rfl) (by kernel_rfl) (by kernel_rfl) (by kernel_rfl) (fun _ _ _ h => h) (Or.inl ⟨by rfl, ?_⟩) hHeld ?_
  rotate_left
  · intro w_ hSw; (try dsimp only at hSw); go_simp; try (with_reducible rfl)
  try simp only [Act.put, List.setIfInBounds_toArray, List.set_cons_zero, List.set_cons_succ]
  refine wpAnyLast_ready (rs := [7]) (by kernel_rfl) (by simp) ?_
  refine AllReadyL.cons (o := ({ dst := (some 14), op := (Op.call { callee := (Callee.builtin Builtin.append), args := #[(Operand.tmp 12), (Operand.tmp 13)], argTypes := #[22, 22] }), type := 22, pos := "word.go:50", after := #[{ on := 5, ground := Ground.data }, { on := 6, ground := Ground.data }], guard := none } : Oper)) rfl (by decide) (fun K hK => ?_) AllReadyL.nil
  refine st_append (plain_int .u8) HP.out 2 (by rfl) _ _ 22 5 (.int .u8 0) 1 (by rfl) Try.underlying22 info8 rfl (by decide) (by decide) (.slice A xs.length c) xs d (some ⟨b3, 0, none⟩) 32 32 (by rfl) (by rfl) rfl (C_by8 (HP.out.blk 0 rfl) HD.out.1 (by decide)) (by have := HX.out; omega) ?_; intro v2 w2 hpn; clear HP; have HP := Aside0.mk hpn; clear hpn; obtain ⟨A3, c3, rfl⟩ := Kd.R_slice (HP.out.row 2 rfl); rw [List.length_append, HD.out.1] at HP; rw [List.length_append, HD.out.1]
  clear hHeld
  refine hK.out _ _ ?_ (fun hHeld => ?_)
  · (try dsimp only); exact blk_cell (HP.out.blk 1 rfl) 1
  clear hK K
  try simp only [Act.put, List.setIfInBounds_toArray, List.set_cons_zero, List.set_cons_succ]
  refine wpAnyLast_take (i := 8) (oi := ({ dst := (some 15), op := (Op.nilCheck (Operand.tmp 7)), type := 0, pos := "word.go:50", after := #[{ on := 0, ground := Ground.data }, { on := 0, ground := Ground.phase }, { on := 1, ground := Ground.phase }, { on := 2, ground := Ground.phase }, { on := 3, ground := Ground.phase }, { on := 4, ground := Ground.phase }, { on := 5, ground := Ground.phase }, { on := 6, ground := Ground.phase }, { on := 7, ground := Ground.phase }], guard := none } : Oper)) (v := ?_) rfl (by kernel_rfl) (by kernel_rfl) (by kernel_rfl) (by kernel_rfl) (by kernel_rfl) (fun _ _ _ h => h) (Or.inl ⟨by rfl, ?_⟩) hHeld ?_
  rotate_left
  · intro w_ hSw; (try dsimp only at hSw); go_simp; try (with_reducible rfl)
  try simp only [Act.put, List.setIfInBounds_toArray, List.set_cons_zero, List.set_cons_succ]
  refine wpAnyLast_take (i := 9) (oi := ({ dst := (some 16), op := (Op.fieldAddr 106 (Operand.tmp 15) 0), type := 0, pos := "word.go:50", after := #[{ on := 8, ground := Ground.data }, { on := 0, ground := Ground.phase }, { on := 1, ground := Ground.phase }, { on := 2, ground := Ground.phase }, { on := 3, ground := Ground.phase }, { on := 4, ground := Ground.phase }, { on := 5, ground := Ground.phase }, { on := 6, ground := Ground.phase }, { on := 7, ground := Ground.phase }], guard := none } : Oper)) (v := ?_) rfl (by kernel_rfl) (by kernel_rfl) (by kernel_rfl) (by kernel_rfl) (by kernel_rfl) (fun _ _ _ h => h) (Or.inl ⟨by rfl, ?_⟩) hHeld ?_
  rotate_left
  · intro w_ hSw; (try dsimp only at hSw); go_simp; try (with_reducible rfl)
  try simp only [Act.put, List.setIfInBounds_toArray, List.set_cons_zero, List.set_cons_succ]
  refine wpAnyLast_take (i := 10) (oi := ({ dst := (some 17), op := (Op.fieldAddr 91 (Operand.tmp 16) 1), type := 0, pos := "word.go:50", after := #[{ on := 9, ground := Ground.data }, { on := 0, ground := Ground.phase }, { on := 1, ground := Ground.phase }, { on := 2, ground := Ground.phase }, { on := 3, ground := Ground.phase }, { on := 4, ground := Ground.phase }, { on := 5, ground := Ground.phase }, { on := 6, ground := Ground.phase }, { on := 7, ground := Ground.phase }], guard := none } : Oper)) (v := ?_) rfl (by kernel_rfl) (by kernel_rfl) (by kernel_rfl) (by kernel_rfl) (by kernel_rfl) (fun _ _ _ h => h) (Or.inl ⟨by rfl, ?_⟩) hHeld ?_
  rotate_left
  · intro w_ hSw; (try dsimp only at hSw); go_simp; try (with_reducible rfl)
  try simp only [Act.put, List.setIfInBounds_toArray, List.set_cons_zero, List.set_cons_succ]
  refine wpAnyLast_ready (rs := [11]) (by kernel_rfl) (by simp) ?_
  refine AllReadyL.cons_last (o := ({ dst := none, op := (Op.store 22 (Operand.tmp 17) (Operand.tmp 14)), type := 0, pos := "word.go:50", after := #[{ on := 10, ground := Ground.data }, { on := 7, ground := Ground.data }, { on := 7, ground := Ground.chain }, { on := 0, ground := Ground.phase }, { on := 1, ground := Ground.phase }, { on := 2, ground := Ground.phase }, { on := 3, ground := Ground.phase }, { on := 4, ground := Ground.phase }, { on := 5, ground := Ground.phase }, { on := 6, ground := Ground.phase }, { on := 7, ground := Ground.phase }], guard := none } : Oper)) rfl (by decide) (fun K hK => ?_) AllReadyL.nil
  have hc1 : w2.cell? ⟨g, 1, none⟩ = some (.slice A xs.length c) := blk_cell (HP.out.blk 1 rfl) 1; have hf1 := frozC (HP.out.blk 1 rfl) 1; go_simp; have HPn := Aside0.mk (HP.out.setCell 1 rfl 1 (.slice A3 (xs.length + 32) c3)); clear HP hc1 hf1; have HP := HPn; clear HPn
  clear hHeld
  refine hK.out _ _ ?_
  clear hK K
  try simp only [Act.put, List.setIfInBounds_toArray, List.set_cons_zero, List.set_cons_succ]
  refine wpAnyLast_done (by kernel_rfl) ?_ _
  go_wp2_with fail
  refine bodyPost_end (v := .tuple #[]) (by simp [results, Try.results57, go_sem]) rfl ?_
  exact ⟨rfl, Hp.closeW (xs ++ d) err (fun x hx => by rcases List.mem_append.1 hx with h | h; exact HM.out x h; exact HD.out.2 x h) HI.out HP.out.drop1⟩
set_option maxHeartbeats 8000000 in
set_option maxRecDepth 100000 in
theorem c_wout {w0 w : World} {Rs : List Res} (HP : Hp w0 w Rs) (i g : Nat) (xs : List Int) (err : Int) (hi : Rs[i]? = some (rWriter w0.heap.size g xs err)) (he : err = 0) (hx : xs.length ≤ 100000000000) :
    Calls Try.prog 54 #[.pointer (some ⟨g, 0, none⟩)] w fun e w' => ∃ v, e = .returned (.tuple #[v, .int .i64 0]) ∧ Hp w0 w' (.row (Kd.int .u8) 5 w0.heap.size v xs :: Rs) := by
  have HSELF := Aside0.mk (show Rs.set i (rWriter w0.heap.size g xs err) = Rs from set_self hi)
  obtain ⟨v, hm, HP0⟩ := HP.openE i hi
  have HP1 : Hp w0 w (.blk g (.cells (wC v err).toArray 106 (0, 0)) :: .row (Kd.int .u8) 5 w0.heap.size v xs :: Rs.set i .none) := HP0
  have hil : i < Rs.length := (List.getElem?_eq_some_iff.1 hi).1
  have hm2 : ∀ x ∈ xs, 0 ≤ x ∧ x < 256 := hm
  have HPn := Aside0.mk HP1
  have HM := Aside0.mk hm2
  have HI := Aside0.mk hil
  clear HP HP0 HP1 hm hm2 hil hi
  have HP := HPn
  clear HPn
  obtain ⟨A, c, rfl⟩ := Kd.R_slice (HP.out.row 1 rfl)
  have HX := Aside0.mk hx
  subst he
  clear hx
  have h2 : w.cell? ⟨g, 2, none⟩ = some (.int .i64 0) := blk_cell (HP.out.blk 0 rfl) 2
  have HS := Aside0.mk (fun w1 (h : Hp w0 w1 (.blk g (.cells (wC (.slice A xs.length c) 0).toArray 106 (0, 0)) :: .row (Kd.int .u8) 5 w0.heap.size (.slice A xs.length c) xs :: Rs.set i .none)) => (show Hp w0 w1 Rs by rw [← HSELF.out]; exact Hp.closeW xs 0 HM.out HI.out h))
  go_enter Try.func54, Try.ntmps54
  go_wp2_with fail
  refine (c_absent g _ 0 _ (HP.out.blk 0 rfl)).mono ?_; rintro e wb ⟨rfl, rfl⟩
  go_wp2_with (first | ((with_reducible refine gate_dst (N := 21) rfl ?_); refine ev_lit (d := Kd.int .u8) HP.out 5 rfl (xs := ([] : List Int)) (inner := []) (N := 21) rfl ?hr21 (Reps.none _ _) (by first | decide | simp) ?_; (case hr21 => first | (go_simp; done) | (go_simp; rfl)); intro v_r0 wq hpn; clear HP; have HP := Aside0.mk hpn; clear hpn; obtain ⟨A_r0, c_r0, rfl⟩ := Kd.R_slice (HP.out.row 0 rfl); have hq : wq.cell? ⟨g, 1, none⟩ = some (.slice A xs.length c) := blk_cell (HP.out.blk 1 rfl) 1) | ((with_reducible refine gate_dst (N := 27) rfl ?_); refine ev_append (plain_int .u8) HP.out 0 rfl (.tmp 21) (.tmp 26) 22 5 (.int .u8 0) 1 rfl Try.underlying22 info8 rfl (by decide) (by decide) (.slice A_r0 0 c_r0) [] xs A xs.length c rfl rfl rfl (Kd.R_reads' (HP.out.row 2 rfl)).2.2 (by have := HX.out; simp; omega) ?_; intro v_r1 wq hpn; clear HP; have HP := Aside0.mk hpn; clear hpn; obtain ⟨A_r1, c_r1, rfl⟩ := Kd.R_slice (HP.out.row 0 rfl)))
  refine bodyPost_ret (results_two2 rfl _ _ rfl rfl) rfl ?_
  refine ⟨.slice A_r1 ([] ++ xs).length c_r1, rfl, ?_⟩
  have h9 := rotl (l := [.blk g (.cells (wC (.slice A xs.length c) 0).toArray 106 (0, 0)), .row (Kd.int .u8) 5 w0.heap.size (.slice A xs.length c) xs]) (Rs := Rs.set i .none) (show Hp w0 wq (.row (Kd.int .u8) 5 w0.heap.size (.slice A_r1 xs.length c_r1) xs :: ([.blk g (.cells (wC (.slice A xs.length c) 0).toArray 106 (0, 0)), .row (Kd.int .u8) 5 w0.heap.size (.slice A xs.length c) xs] ++ Rs.set i .none)) from HP.out)
  have h10 := Hp.closeW (Rs := .row (Kd.int .u8) 5 w0.heap.size (.slice A_r1 xs.length c_r1) xs :: Rs) xs 0 (i := i + 1) HM.out (by simpa using HI.out) h9
  have h11 : Hp w0 wq (.row (Kd.int .u8) 5 w0.heap.size (.slice A_r1 xs.length c_r1) xs :: Rs.set i (rWriter w0.heap.size g xs 0)) := h10
  rw [HSELF.out] at h11
  exact h11
end Go.Proofs.Ytlgnfbgjdkbfoaa.Wd
