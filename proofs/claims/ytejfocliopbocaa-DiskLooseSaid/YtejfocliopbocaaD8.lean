import Derived.Test.YtejfocliopbocaaD7
import Derived.Deep.RegionHeld3
import Derived.Deep.DrawnRows
namespace Go.Proofs.Ytejfocliopbocaa.D
open Go.RowKit Go.Proofs.Ytejfocliopbocaa.XD Go.Proofs.YtejfocliopbocaaW.PrintWords Go.Proofs.YtejfocliopbocaaW.PrintLast Go.Proofs.YtejfocliopbocaaW.PrintMore Go.Proofs.YtejfocliopbocaaXe Go.Proofs.YtejfocliopbocaaXs
set_option linter.unusedVariables false
set_option linter.unusedSimpArgs false
attribute [local go_sem ↓] Go.wp_at_zero Go.wp_at_succ
/-- a loose write's cells -/
def lc (n : Int) (b : List Int) : List Value := .int .i64 n :: u8c b
theorem u8c_len (l : List Int) : (u8c l).length = l.length := by simp [u8c]
theorem built_l (n : Int) (b : List Int) (hb : b.length = 64) : Try.prog.built 70 [(0, .int .i64 n), (1, .agg (u8c b).toArray)] = some (lc n b).toArray := by
  refine built_of (z := .agg (lc 0 s64).toArray) (by kernel_rfl) Try.underlying70 (places := [(0, 1), (1, (u8c b).length)]) (by rw [u8c_len, hb]; kernel_rfl) ?_
  refine fill_two _ _ _ _ ?_
  rw [u8c_len, hb]; rfl
theorem one_lc (n : Int) (b : List Int) : ∀ u ∈ lc n b, u.oneCell' = true := by
  intro u hu
  rcases List.mem_cons.1 hu with rfl | h
  · rfl
  · obtain ⟨x, _, rfl⟩ := List.mem_map.1 h
    rfl
/-- loose writes -/
def KL : Kd (Int × List Int) where
  sz := 65
  E := []
  K := fun _ x cs => cs = lc x.1 x.2 ∧ x.2.length = 64
  M := fun _ _ _ x cs => cs = lc x.1 x.2 ∧ x.2.length = 64
  K_len := fun ⟨h, h2⟩ => by rw [h, lc, List.length_cons, u8c_len, h2]
  K_one := fun ⟨h, _⟩ u hu => by rw [h] at hu; exact one_lc _ _ u hu
  K_below := fun _ h => h
  K_of_M := fun h => h
  M_mono := fun _ h => h
  M_bound := fun h => h
  M_move := fun _ h => h
  M_lower := fun _ h => h
theorem plain_KL : Plain KL := fun _ _ _ _ h => h
/-- what a disk is -/
structure DS where
  steps : Int
  fuse : Int
  out : Bool
  many : Int
  at' : Int → List Int
  l : List (Int × List Int)
def diskP (S : DS) (x : Nat × List Ent × Nat × Value) : Prop := look x.2.1 = S.at' ∧ ∀ k, (S.at' k).length = 64
def diskL (base g : Nat) (S : DS) (x : Nat × List Ent × Nat × Value) : List Res :=
  [.blk g (.cells (dC S.steps S.fuse S.out true S.many x.1 x.2.2.2).toArray 63 (0, 0)), .blk x.1 (.map (rawM x.2.1) x.2.2.1), .row KL 70 base x.2.2.2 S.l]
def rDisk (base g : Nat) (S : DS) : Res := .ex fun x => .fact (diskP S x) (.all (diskL base g S x))
theorem run_slit (n : Int) (b : List Int) (hb : b.length = 64) (w : World) : (Instr.buildSlice 61 1 #[(0, .agg (lc n b).toArray)]).run Try.prog w = .ok (.slice (some ⟨w.heap.size, 0, none⟩) 1 1) (w.alloc (.cells (lc n b).toArray 70)) := by
  have hl : (lc n b).length = 65 := by rw [lc, List.length_cons, u8c_len, hb]
  exact run_buildSlice1 Try.underlying61 (z := .agg (lc 0 s64).toArray) (by rw [hl]; kernel_rfl) (by omega) (by omega) w
theorem run_op_slit (n : Int) (b : List Int) (hb : b.length = 64) {o : Oper} {a : Act} {w : World} {x : Operand} (ho : o.op = .buildSlice 61 1 #[(0, x)] ∧ a.eval x = .agg (lc n b).toArray) : (execOp a.eval o).run Try.prog w = .ok (.value (.slice (some ⟨w.heap.size, 0, none⟩) 1 1)) (w.alloc (.cells (lc n b).toArray 70)) := by
  unfold execOp
  simp only [ho.1]
  simp [ho.2, run_slit n b hb w, Result.andThen]
theorem lc_C (n : Int) (b : List Int) (hb : b.length = 64) {w : World} {g : Nat} {t : TypeId} {fr : Nat × Nat} (hg : w.heap[g]? = some (.cells (lc n b).toArray t fr)) : KL.C w (some ⟨g, 0, none⟩) 1 [(n, b)] := C_blk1 KL hg ⟨rfl, hb⟩
theorem infoKL : (Try.prog.info? 70).map (fun i => (i.zero, i.size, i.bytes)) = some (some (.agg (lc 0 s64).toArray), 65, 72) := by kernel_rfl
set_option maxHeartbeats 8000000 in
set_option maxRecDepth 100000 in
theorem c_write1 {w0 w : World} {Rs : List Res} (g gm : Nat) (steps fuse : Int) (many : Int) (m : Obj) (v : Value) (n : Int) (A : Nat) (off c : Nat) (b : List Int) (hb : b.length = 64) (l : List (Int × List Int)) (hl : l.length ≤ 1000000) (b0 b1 b2 : Nat)
    (HP : Hp w0 w (.blk b2 (.cells #[.slice (some ⟨A, off, none⟩) 64 c] 27 (0, 0)) :: .blk b1 (.cells #[.int .i64 n] 3 (0, 0)) :: .blk b0 (.cells #[.pointer (some ⟨g, 0, none⟩)] 22 (0, 0)) :: .blk g (.cells (dC steps fuse false true many gm v).toArray 63 (0, 0)) :: .blk gm m :: .row KL 70 w0.heap.size v l :: Rs))
    (hB : ∀ w, Hp w0 w Rs → (Kd.int .u8).C w (some ⟨A, off, none⟩) 64 b) :
    Calls Try.prog 31 #[.pointer (some ⟨b0, 0, none⟩), .pointer (some ⟨b1, 0, none⟩), .pointer (some ⟨b2, 0, none⟩)] w fun e w' => e = .returned (.tuple #[]) ∧
      ∃ v', Hp w0 w' (.blk b2 (.cells #[.slice (some ⟨A, off, none⟩) 64 c] 27 (0, 0)) :: .blk b1 (.cells #[.int .i64 n] 3 (0, 0)) :: .blk b0 (.cells #[.pointer (some ⟨g, 0, none⟩)] 22 (0, 0)) :: .blk g (.cells (dC steps fuse false true many gm v').toArray 63 (0, 0)) :: .blk gm m :: .row KL 70 w0.heap.size v' (l ++ [(n, b)]) :: Rs) := by
  obtain ⟨Av, cv, rfl⟩ := Kd.R_slice (HP.row 5 rfl)
  have HPn := Aside0.mk HP
  clear HP
  have HP := HPn
  clear HPn
  have HB := Aside0.mk hB
  have HBL := Aside0.mk hb
  have HL := Aside0.mk hl
  have hu := Try.underlying68
  have hi : (Try.prog.info? 68).map (·.size) = some (u8c b).length := by rw [u8c_len, hb]; kernel_rfl
  have har : ∀ w, (Instr.arrayAt 68 (.slice (some ⟨A, off, none⟩) 64 c)).run Try.prog w = .ok (.pointer (some ⟨A, off, none⟩)) w := fun w => by simp [Instr.arrayAt, run_underlying hu]
  clear hB hb hl
  go_enter Try.func31, Try.ntmps31
  refine last_named (ds := [14]) (S := (fun w' => w'.cell? ⟨b0, 0, none⟩ = some (.pointer (some ⟨g, 0, none⟩)) ∧ w'.cell? ⟨b1, 0, none⟩ = some (.int .i64 n) ∧ w'.cell? ⟨b2, 0, none⟩ = some (.slice (some ⟨A, off, none⟩) 64 c) ∧ w'.cell? ⟨g, 6, none⟩ = some (.slice Av l.length cv) ∧ w'.rangeAt A off (u8c b))) (by kernel_rfl) (fun wd0 hwd0 => ?_)
  have HPn := Aside0.mk (HP.out.drewN 1)
  rw [← World.drew_is_drewN, hwd0] at HPn
  clear HP hwd0
  have HP := HPn
  clear HPn
  refine ⟨by (try dsimp only); first | exact ⟨blk_cell (HP.out.blk 2 rfl) 0, blk_cell (HP.out.blk 1 rfl) 0, blk_cell (HP.out.blk 0 rfl) 0, blk_cell (HP.out.blk 3 rfl) 6, range_C (HB.out _ (Hp.dropN [_, _, _, _, _, _] HP.out))⟩ | exact ⟨blk_cell (HP.out.blk 3 rfl) 0, blk_cell (HP.out.blk 2 rfl) 0, blk_cell (HP.out.blk 1 rfl) 0, blk_cell (HP.out.blk 4 rfl) 6, range_C (HB.out _ (Hp.dropN [_, _, _, _, _, _, _] HP.out))⟩, fun hHeld => ?_⟩
  refine wpAnyLast_take (i := 0) (oi := ({ dst := (some 3), op := (Op.load 22 (Operand.tmp 0)), type := 22, pos := "disk.go:90", after := #[], guard := none } : Oper)) (v := ?_) rfl (by kernel_rfl) (by kernel_rfl) (by kernel_rfl) (by kernel_rfl) (by kernel_rfl) (fun _ _ _ h => h) (Or.inl ⟨by rfl, ?_⟩) hHeld ?_
  rotate_left
  · intro w_ hSw; (try dsimp only at hSw); go_simp; try (with_reducible rfl)
  try simp only [Act.put, List.setIfInBounds_toArray, List.set_cons_zero, List.set_cons_succ]
  refine wpAnyLast_take (i := 1) (oi := ({ dst := (some 4), op := (Op.load 22 (Operand.tmp 0)), type := 22, pos := "disk.go:90", after := #[], guard := none } : Oper)) (v := ?_) rfl (by kernel_rfl) (by kernel_rfl) (by kernel_rfl) (by kernel_rfl) (by kernel_rfl) (fun _ _ _ h => h) (Or.inl ⟨by rfl, ?_⟩) hHeld ?_
  rotate_left
  · intro w_ hSw; (try dsimp only at hSw); go_simp; try (with_reducible rfl)
  try simp only [Act.put, List.setIfInBounds_toArray, List.set_cons_zero, List.set_cons_succ]
  refine wpAnyLast_take (i := 2) (oi := ({ dst := (some 5), op := (Op.nilCheck (Operand.tmp 4)), type := 0, pos := "disk.go:90", after := #[{ on := 1, ground := Ground.data }], guard := none } : Oper)) (v := ?_) rfl (by kernel_rfl) (by kernel_rfl) (by kernel_rfl) (by kernel_rfl) (by kernel_rfl) (fun _ _ _ h => h) (Or.inl ⟨by rfl, ?_⟩) hHeld ?_
  rotate_left
  · intro w_ hSw; (try dsimp only at hSw); go_simp; try (with_reducible rfl)
  try simp only [Act.put, List.setIfInBounds_toArray, List.set_cons_zero, List.set_cons_succ]
  refine wpAnyLast_take (i := 3) (oi := ({ dst := (some 6), op := (Op.fieldAddr 63 (Operand.tmp 5) 4), type := 0, pos := "disk.go:90", after := #[{ on := 2, ground := Ground.data }], guard := none } : Oper)) (v := ?_) rfl (by kernel_rfl) (by kernel_rfl) (by kernel_rfl) (by kernel_rfl) (by kernel_rfl) (fun _ _ _ h => h) (Or.inl ⟨by rfl, ?_⟩) hHeld ?_
  rotate_left
  · intro w_ hSw; (try dsimp only at hSw); go_simp; try (with_reducible rfl)
  try simp only [Act.put, List.setIfInBounds_toArray, List.set_cons_zero, List.set_cons_succ]
  refine wpAnyLast_take (i := 4) (oi := ({ dst := (some 7), op := (Op.load 61 (Operand.tmp 6)), type := 61, pos := "disk.go:90", after := #[{ on := 3, ground := Ground.data }], guard := none } : Oper)) (v := ?_) rfl (by kernel_rfl) (by kernel_rfl) (by kernel_rfl) (by kernel_rfl) (by kernel_rfl) (fun _ _ _ h => h) (Or.inl ⟨by rfl, ?_⟩) hHeld ?_
  rotate_left
  · intro w_ hSw; (try dsimp only at hSw); go_simp; try (with_reducible rfl)
  try simp only [Act.put, List.setIfInBounds_toArray, List.set_cons_zero, List.set_cons_succ]
  refine wpAnyLast_take (i := 5) (oi := ({ dst := (some 8), op := (Op.load 3 (Operand.tmp 1)), type := 3, pos := "disk.go:90", after := #[], guard := none } : Oper)) (v := ?_) rfl (by kernel_rfl) (by kernel_rfl) (by kernel_rfl) (by kernel_rfl) (by kernel_rfl) (fun _ _ _ h => h) (Or.inl ⟨by rfl, ?_⟩) hHeld ?_
  rotate_left
  · intro w_ hSw; (try dsimp only at hSw); go_simp; try (with_reducible rfl)
  try simp only [Act.put, List.setIfInBounds_toArray, List.set_cons_zero, List.set_cons_succ]
  refine wpAnyLast_take (i := 6) (oi := ({ dst := (some 9), op := (Op.load 27 (Operand.tmp 2)), type := 27, pos := "disk.go:90", after := #[], guard := none } : Oper)) (v := ?_) rfl (by kernel_rfl) (by kernel_rfl) (by kernel_rfl) (by kernel_rfl) (by kernel_rfl) (fun _ _ _ h => h) (Or.inl ⟨by rfl, ?_⟩) hHeld ?_
  rotate_left
  · intro w_ hSw; (try dsimp only at hSw); go_simp; try (with_reducible rfl)
  try simp only [Act.put, List.setIfInBounds_toArray, List.set_cons_zero, List.set_cons_succ]
  refine wpAnyLast_take (i := 7) (oi := ({ dst := (some 10), op := (Op.sliceToArrayPointer 68 (Operand.tmp 9)), type := 0, pos := "disk.go:90", after := #[{ on := 6, ground := Ground.data }], guard := none } : Oper)) (v := ?_) rfl (by kernel_rfl) (by kernel_rfl) (by kernel_rfl) (by kernel_rfl) (by kernel_rfl) (fun _ _ _ h => h) (Or.inl ⟨by rfl, ?_⟩) hHeld ?_
  rotate_left
  · intro w_ hSw; (try dsimp only at hSw); go_simp; try (with_reducible rfl)
  try simp only [Act.put, List.setIfInBounds_toArray, List.set_cons_zero, List.set_cons_succ]
  refine wpAnyLast_take (i := 8) (oi := ({ dst := (some 11), op := (Op.load 68 (Operand.tmp 10)), type := 68, pos := "disk.go:90", after := #[{ on := 7, ground := Ground.data }], guard := none } : Oper)) (v := _) rfl (by kernel_rfl) (by kernel_rfl) (by kernel_rfl) (by kernel_rfl) (by kernel_rfl) (fun _ _ _ h => h) (yieldsIf_load_mid (by rfl) _ _ rfl _ _ rfl _ _ (fun w hw => hw.2.2.2.2) hu rfl hi) hHeld ?_
  try simp only [Act.put, List.setIfInBounds_toArray, List.set_cons_zero, List.set_cons_succ]
  refine wpAnyLast_take (i := 9) (oi := ({ dst := (some 12), op := (Op.build 70 #[(0, (Operand.tmp 8)), (1, (Operand.tmp 11))]), type := 70, pos := "disk.go:90", after := #[{ on := 5, ground := Ground.data }, { on := 8, ground := Ground.data }], guard := none } : Oper)) (v := .agg (lc n b).toArray) rfl (by kernel_rfl) (by kernel_rfl) (by kernel_rfl) (by kernel_rfl) (by kernel_rfl) (fun _ _ _ h => h) (Or.inl ⟨by rfl, fun w_ hSw => run_op_build _ _ (by rfl) [(0, .int .i64 n), (1, .agg (u8c b).toArray)] (by rfl) (built_l n b HBL.out)⟩) hHeld ?_
  try simp only [Act.put, List.setIfInBounds_toArray, List.set_cons_zero, List.set_cons_succ]
  refine wpAnyLast_ready (rs := [10]) (by kernel_rfl) (by simp) ?_
  refine AllReadyL.cons (o := ({ dst := (some 13), op := (Op.buildSlice 61 1 #[(0, (Operand.tmp 12))]), type := 61, pos := "disk.go:90", after := #[{ on := 9, ground := Ground.data }], guard := none } : Oper)) rfl (by decide) (fun K hK => ?_) AllReadyL.nil
  refine st_run (by rfl) (run_op_slit n b HBL.out (x := .tmp 12) (by exact ⟨rfl, rfl⟩)) ?_; obtain ⟨w1, hw1⟩ : ∃ z, wd0.alloc (.cells (lc n b).toArray 70) = z := ⟨_, rfl⟩; obtain ⟨g1, hg1⟩ : ∃ z, wd0.heap.size = z := ⟨_, rfl⟩; have HPn := Aside0.mk (HP.out.alloc (.cells (lc n b).toArray 70 (0, 0))); rw [hw1, hg1] at HPn; rw [hw1, hg1]; clear HP hw1 hg1; have HP := HPn; clear HPn
  clear hHeld
  refine hK.out _ _ ?_ (fun hHeld => ?_)
  · (try dsimp only); first | exact ⟨blk_cell (HP.out.blk 2 rfl) 0, blk_cell (HP.out.blk 1 rfl) 0, blk_cell (HP.out.blk 0 rfl) 0, blk_cell (HP.out.blk 3 rfl) 6, range_C (HB.out _ (Hp.dropN [_, _, _, _, _, _] HP.out))⟩ | exact ⟨blk_cell (HP.out.blk 3 rfl) 0, blk_cell (HP.out.blk 2 rfl) 0, blk_cell (HP.out.blk 1 rfl) 0, blk_cell (HP.out.blk 4 rfl) 6, range_C (HB.out _ (Hp.dropN [_, _, _, _, _, _, _] HP.out))⟩
  clear hK K
  try simp only [Act.put, List.setIfInBounds_toArray, List.set_cons_zero, List.set_cons_succ]
  refine wpAnyLast_ready (rs := [11]) (by kernel_rfl) (by simp) ?_
  refine AllReadyL.cons (o := ({ dst := (some 14), op := (Op.call { callee := (Callee.builtin Builtin.append), args := #[(Operand.tmp 7), (Operand.tmp 13)], argTypes := #[61, 61] }), type := 61, pos := "disk.go:90", after := #[{ on := 4, ground := Ground.data }, { on := 10, ground := Ground.data }], guard := none } : Oper)) rfl (by decide) (fun K hK => ?_) AllReadyL.nil
  refine st_append plain_KL HP.out 6 (by rfl) _ _ 61 70 _ 72 (by rfl) Try.underlying61 infoKL rfl (by decide) (by decide) (.slice Av l.length cv) l [(n, b)] (some ⟨g1, 0, none⟩) 1 1 (by rfl) (by rfl) rfl (lc_C n b HBL.out (HP.out.blk 0 rfl)) (by have := HL.out; omega) ?_; intro v2 w2 hpn; clear HP; have HP := Aside0.mk hpn; clear hpn; obtain ⟨A2, c2, rfl⟩ := Kd.R_slice (HP.out.row 6 rfl); simp only [List.length_append, List.length_cons, List.length_nil, Nat.zero_add] at HP; (try simp only [List.length_append, List.length_cons, List.length_nil, Nat.zero_add])
  clear hHeld
  refine hK.out _ _ ?_ (fun hHeld => ?_)
  · (try dsimp only); first | exact ⟨blk_cell (HP.out.blk 2 rfl) 0, blk_cell (HP.out.blk 1 rfl) 0, blk_cell (HP.out.blk 0 rfl) 0, blk_cell (HP.out.blk 3 rfl) 6, range_C (HB.out _ (Hp.dropN [_, _, _, _, _, _] HP.out))⟩ | exact ⟨blk_cell (HP.out.blk 3 rfl) 0, blk_cell (HP.out.blk 2 rfl) 0, blk_cell (HP.out.blk 1 rfl) 0, blk_cell (HP.out.blk 4 rfl) 6, range_C (HB.out _ (Hp.dropN [_, _, _, _, _, _, _] HP.out))⟩
  clear hK K
  try simp only [Act.put, List.setIfInBounds_toArray, List.set_cons_zero, List.set_cons_succ]
  refine wpAnyLast_take (i := 12) (oi := ({ dst := (some 15), op := (Op.nilCheck (Operand.tmp 3)), type := 0, pos := "disk.go:90", after := #[{ on := 0, ground := Ground.data }, { on := 0, ground := Ground.phase }, { on := 1, ground := Ground.phase }, { on := 2, ground := Ground.phase }, { on := 3, ground := Ground.phase }, { on := 4, ground := Ground.phase }, { on := 5, ground := Ground.phase }, { on := 6, ground := Ground.phase }, { on := 7, ground := Ground.phase }, { on := 8, ground := Ground.phase }, { on := 9, ground := Ground.phase }, { on := 10, ground := Ground.phase }, { on := 11, ground := Ground.phase }], guard := none } : Oper)) (v := ?_) rfl (by kernel_rfl) (by kernel_rfl) (by kernel_rfl) (by kernel_rfl) (by kernel_rfl) (fun _ _ _ h => h) (Or.inl ⟨by rfl, ?_⟩) hHeld ?_
  rotate_left
  · intro w_ hSw; (try dsimp only at hSw); go_simp; try (with_reducible rfl)
  try simp only [Act.put, List.setIfInBounds_toArray, List.set_cons_zero, List.set_cons_succ]
  refine wpAnyLast_take (i := 13) (oi := ({ dst := (some 16), op := (Op.fieldAddr 63 (Operand.tmp 15) 4), type := 0, pos := "disk.go:90", after := #[{ on := 12, ground := Ground.data }, { on := 0, ground := Ground.phase }, { on := 1, ground := Ground.phase }, { on := 2, ground := Ground.phase }, { on := 3, ground := Ground.phase }, { on := 4, ground := Ground.phase }, { on := 5, ground := Ground.phase }, { on := 6, ground := Ground.phase }, { on := 7, ground := Ground.phase }, { on := 8, ground := Ground.phase }, { on := 9, ground := Ground.phase }, { on := 10, ground := Ground.phase }, { on := 11, ground := Ground.phase }], guard := none } : Oper)) (v := ?_) rfl (by kernel_rfl) (by kernel_rfl) (by kernel_rfl) (by kernel_rfl) (by kernel_rfl) (fun _ _ _ h => h) (Or.inl ⟨by rfl, ?_⟩) hHeld ?_
  rotate_left
  · intro w_ hSw; (try dsimp only at hSw); go_simp; try (with_reducible rfl)
  try simp only [Act.put, List.setIfInBounds_toArray, List.set_cons_zero, List.set_cons_succ]
  refine wpAnyLast_ready (rs := [14]) (by kernel_rfl) (by simp) ?_
  refine AllReadyL.cons_last (o := ({ dst := none, op := (Op.store 61 (Operand.tmp 16) (Operand.tmp 14)), type := 0, pos := "disk.go:90", after := #[{ on := 13, ground := Ground.data }, { on := 11, ground := Ground.data }, { on := 11, ground := Ground.chain }, { on := 0, ground := Ground.phase }, { on := 1, ground := Ground.phase }, { on := 2, ground := Ground.phase }, { on := 3, ground := Ground.phase }, { on := 4, ground := Ground.phase }, { on := 5, ground := Ground.phase }, { on := 6, ground := Ground.phase }, { on := 7, ground := Ground.phase }, { on := 8, ground := Ground.phase }, { on := 9, ground := Ground.phase }, { on := 10, ground := Ground.phase }, { on := 11, ground := Ground.phase }], guard := none } : Oper)) rfl (by decide) (fun K hK => ?_) AllReadyL.nil
  have hc6 := blk_cell (HP.out.blk 4 rfl) 6; have hf6 := blk_frozen (HP.out.blk 4 rfl) 6; go_simp; have HPn := Aside0.mk (HP.out.setCell 4 rfl 6 (.slice A2 (l.length + 1) c2)); clear HP hc6 hf6; have HP := HPn; clear HPn
  clear hHeld
  refine hK.out _ _ ?_
  clear hK K
  try simp only [Act.put, List.setIfInBounds_toArray, List.set_cons_zero, List.set_cons_succ]
  refine wpAnyLast_done (by kernel_rfl) ?_ _
  refine bodyPost_end (v := .tuple #[]) (by simp [results, Try.results31, go_sem]) rfl ?_
  exact ⟨rfl, .slice A2 (l.length + 1) c2, Hp.drop1 HP.out⟩
end Go.Proofs.Ytejfocliopbocaa.D
