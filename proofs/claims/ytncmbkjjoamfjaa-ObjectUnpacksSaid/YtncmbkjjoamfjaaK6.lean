import Derived.Test.YtncmbkjjoamfjaaH3
import Derived.Test.YtncmbkjjoamfjaaXHgL
namespace Go.Proofs.Ytncmbkjjoamfjaa.H
open Go.RowKit Go.Proofs.Ytncmbkjjoamfjaa.XH Go.Proofs.YtncmbkjjoamfjaaW.PrintWords Go.Proofs.YtncmbkjjoamfjaaW.PrintLast Go.Proofs.YtncmbkjjoamfjaaW.PrintMore Go.Proofs.YtncmbkjjoamfjaaXe Go.Proofs.YtncmbkjjoamfjaaXs
set_option linter.unusedVariables false
set_option linter.unusedSimpArgs false
attribute [local go_sem ↓] Go.wp_at_zero Go.wp_at_succ
attribute [local go_sem] valUpon
theorem run_make8 (n : Nat) (hn : n ≤ 281474976710656) (w : World) : (Instr.makeSlice 22 (.int .i64 (n : Int)) (.int .i64 (n : Int))).run Try.prog w = .ok (.slice (some ⟨w.heap.size, 0, none⟩) n n) (w.alloc (.cells (u8s (List.replicate n 0)).toArray 5)) := by
  obtain ⟨i, hi, hz, hs, hb⟩ := info_parts info5
  have h := run_make (P := Try.prog) w 22 5 i _ Try.underlying22 hi hz .i64 .i64 n n (by omega) (by omega) (by rw [hb]; omega) (by omega)
  rw [Int.toNat_natCast, hs] at h
  rw [h]
  congr 3
  apply Array.ext'
  simp [madeCells, Value.cells, u8s, Nat.mod_one, List.map_const']
/-- the marks behind bytes that are lent -/
def lentT (n : Nat) : List Int := [160 + (n : Int) % 90, 160 + ((n + 1 : Nat) : Int) % 90, 160 + ((n + 2 : Nat) : Int) % 90]
def lentS (b : List Int) (j : Nat) : List Int := b ++ ((lentT b.length).take j ++ List.replicate (3 - j) 0)
theorem lentS_len (b : List Int) (j : Nat) (h : j ≤ 3) : (lentS b j).length = b.length + 3 := by simp [lentS, lentT]; omega
theorem lentS_step (b : List Int) (j : Nat) (h : j < 3) : (lentS b j).set (b.length + j) (160 + ((b.length + j : Nat) : Int) % 90) = lentS b (j + 1) := by
  unfold lentS
  rw [List.set_append_right _ _ (by omega), Nat.add_sub_cancel_left]
  congr 1
  match j, h with
  | 0, _ => rfl
  | 1, _ => rfl
  | 2, _ => rfl
set_option maxHeartbeats 8000000 in
set_option maxRecDepth 100000 in
theorem c_lent (A : Option Addr) (c : Nat) (b : List Int) (w : World) (hr : Kd.C (Kd.int .u8) w A b.length b) (hc : b.length ≤ c) (hm : b.length ≤ 100000000000000) :
    Calls Try.prog 9 #[.slice A b.length c] w fun e w' => ∃ g, e = .returned (.slice (some ⟨g, 0, none⟩) b.length (b.length + 3)) ∧ w.heap.size ≤ g ∧ w'.heap[g]? = some (.cells (u8s (b ++ lentT b.length)).toArray 5 (0, 0)) ∧ Below w.heap.size w w' := by
  have HR := Aside0.mk hr
  have HM := Aside0.mk hm
  have HP := Aside0.mk (Hp.start w)
  obtain ⟨n3, hn3⟩ : ∃ n3, b.length + 3 = n3 := ⟨_, rfl⟩
  have e1 := i64k (x := (b.length : Int) + 3) (y := (n3 : Int)) (by omega) (by omega)
  have hmk := run_make8 n3 (by omega) w
  have HN3 := Aside0.mk hn3
  obtain ⟨g, hg⟩ : ∃ g, w.heap.size = g := ⟨_, rfl⟩
  obtain ⟨w1, hw1⟩ : ∃ w1, w.alloc (.cells (u8s (List.replicate n3 0)).toArray 5 (0, 0)) = w1 := ⟨_, rfl⟩
  have HP1 := Aside0.mk (HP.out.alloc (.cells (u8s (List.replicate n3 0)).toArray 5 (0, 0)))
  rw [hw1, hg] at HP1
  rw [hw1, hg] at hmk
  have HG := Aside0.mk hg
  have e2 : splice (u8s (List.replicate n3 0)) 0 (u8s b) = u8s (lentS b 0) := by
    have := HN3.out
    unfold splice lentS u8s
    rw [List.take_zero, List.nil_append, Nat.zero_add, List.length_map, ← List.map_drop, ← List.map_append, List.drop_replicate, show n3 - b.length = 3 by omega]
    rfl
  have HE2 := Aside0.mk e2
  have HCS := Aside0.mk (show u8s b = (b.take n3).map (Value.int .u8) from by rw [List.take_of_length_le (l := b) (i := n3) (by have := HN3.out; omega)]; rfl)
  have HFT := Aside0.mk (show 0 + (u8s b).length ≤ (u8s (List.replicate n3 0)).length from by rw [u8s_len, u8s_len, List.length_replicate]; have := HN3.out; omega)
  clear e2 HP hw1 hg
  have HP := HP1
  clear HP1
  clear hr hm hc hn3
  go_enter Try.func9, Try.ntmps9
  go_wp2_with (first | ((with_reducible refine gate_dst (N := 8) rfl ?_); refine ev_run rfl hmk ?_) | ((with_reducible refine gate_builtin (b := .copy) (xs := #[.tmp 9, .tmp 10]) rfl ?_); refine ev_copy HP.out 0 rfl rfl (.tmp 9) (.tmp 10) 22 22 rfl 5 Try.underlying22 (by kernel_rfl) n3 n3 rfl rfl (rfl : b.length = b.length) (Kd.C_below HR.out HP.out.below) HCS.out HFT.out (u8s_len b) ?_; intro w2 hp2; clear HP; have HP := Aside0.mk hp2; clear hp2))
  rw [HE2.out] at HP
  have HP1 := Aside0.mk (show Hp w w2 [.blk g (.cells (u8s (lentS b 0)).toArray 5 (0, 0))] from HP.out)
  clear HP HE2
  go_loopg [4] 3 (fun kq v4 w' => ∃ (j : Nat) (x : Int), v4 = .int .i64 x ∧ Aside0 (x = ((b.length + j : Nat) : Int)) ∧ Aside0 (kq + j = 3) ∧ Aside0 (Hp w w' [.blk g (.cells (u8s (lentS b j)).toArray 5 (0, 0))]))
  case atStart => exact ⟨0, (b.length : Int), rfl, ⟨rfl⟩, ⟨rfl⟩, HP1⟩
  clear HP1
  obtain ⟨j, x, rfl, HX, HK, HP⟩ := hrel
  have hx := HX.out
  have hn3 := HN3.out
  have hm := HM.out
  by_cases c1 : j < 3
  · have d1 : decide (x < (n3 : Int)) = true := decide_eq_true (by omega)
    have ex := i64k (x := x + 1) rfl (by omega)
    have p0 : 0 ≤ x := by omega
    have q0 : x < (n3 : Int) := by omega
    obtain ⟨y, hy⟩ : ∃ y, x % 90 = y := ⟨_, rfl⟩
    have ey : Int.tmod x 90 = y := by rw [Int.tmod_eq_emod_of_nonneg (by omega)]; exact hy
    obtain ⟨z, hz⟩ : ∃ z, 160 + y = z := ⟨_, rfl⟩
    have ez := i64k hz (by omega)
    have ez8 : IntKind.u8.wrap z = z := by rw [IntKind.wrap_u8]; omega
    have ez9 : z % 256 = z := by omega
    have hcw := cellL (HP.out.blk 0 rfl) x p0 (by rw [lentS_len _ _ (by omega)]; omega)
    have hfw := frozC (HP.out.blk 0 rfl) x.toNat
    have HZ := Aside0.mk (And.intro hy hz)
    have HC1 := Aside0.mk c1
    clear hx hm hn3 hy hz c1
    go_wp2
    have hyn : x.toNat = b.length + j := by have := HX.out; omega
    have hzv : z = 160 + ((b.length + j : Nat) : Int) % 90 := by rw [← HZ.out.2, ← HZ.out.1, HX.out]
    have HPn := Aside0.mk (HP.out.setCell 0 rfl (b.length + j) (.int .u8 z))
    rw [show (u8s (lentS b j)).toArray.setIfInBounds (b.length + j) (.int .u8 z) = (u8s (lentS b (j + 1))).toArray from by rw [← lentS_step b j HC1.out, ← hzv]; exact setL (k := .u8) _ _ _, ← hyn] at HPn
    go_roundg (gk - 1)
    case measure => have := HK.out; have := HC1.out; omega
    case rel => exact ⟨j + 1, x + 1, by simp, ⟨by have := HX.out; omega⟩, ⟨by have := HK.out; have := HC1.out; omega⟩, HPn⟩
  · have d1 : decide (x < (n3 : Int)) = false := decide_eq_false (by omega)
    obtain rfl : j = 3 := by have := HK.out; omega
    have k1 : (b.length : Int) ≤ (n3 : Int) := by omega
    clear hx hm hn3 c1
    rw [show lentS b 3 = b ++ lentT b.length from by simp [lentS, lentT]] at HP
    go_wp2
    obtain rfl := HN3.out
    go_ret
    exact ⟨g, rfl, by rw [HG.out]; exact Nat.le_refl _, HP.out.blk 0 rfl, HP.out.below⟩
theorem C_blkW {w : World} {g : Nat} {l : List Int} {t : TypeId} {k : IntKind} (hg : w.heap[g]? = some (.cells (l.map (Value.int k)).toArray t (0, 0))) (hl : l.length ≤ 9223372036854775807) : Kd.C (Kd.int k) w (some ⟨g, 0, none⟩) l.length l := by
  refine C_ints hl fun j x hj => ?_
  rw [add_at, cell_of_row w g _ _ _ _ hg]
  simp [hj]
theorem same_f (l : List Int) : retconkit_SameBytes.f l l = some true := by simp [retconkit_SameBytes.f]
theorem lent_len (b : List Int) : (b ++ lentT b.length).length = b.length + 3 := by simp [lentT]
set_option maxHeartbeats 8000000 in
set_option maxRecDepth 100000 in
theorem c_kept (g : Nat) (A : Option Addr) (c : Nat) (b : List Int) (w : World) (hg : w.heap[g]? = some (.cells (u8s (b ++ lentT b.length)).toArray 5 (0, 0))) (hr : Kd.C (Kd.int .u8) w A b.length b) (hc : b.length ≤ c) (hm : b.length ≤ 100000000000000) :
    Calls Try.prog 18 #[.slice (some ⟨g, 0, none⟩) b.length (b.length + 3), .slice A b.length c] w fun e w' => e = .returned (.bool true) ∧ Below w.heap.size w w' := by
  have HR := Aside0.mk hr
  have HM := Aside0.mk hm
  have HC := Aside0.mk hc
  have HB := Aside0.mk hg
  have HLT := Aside0.mk (blk_lt hg)
  have HP := Aside0.mk (Hp.start w)
  obtain ⟨n3, hn3⟩ : ∃ n3, b.length + 3 = n3 := ⟨_, rfl⟩
  have e1 := i64k (x := (b.length : Int) + 3) (y := (n3 : Int)) (by omega) (by omega)
  have k0 : (0 : Int) ≤ (n3 : Int) := by omega
  have CL := Aside0.mk (fun w hr => c_lent A c b w hr hc hm)
  obtain ⟨l, hl⟩ : ∃ l, b ++ lentT b.length = l := ⟨_, rfl⟩
  have hll := lent_len b
  rw [hl] at hll HB
  rw [hl, hn3] at CL
  rw [hn3]
  have HLL := Aside0.mk (hll.trans hn3)
  have HNM := Aside0.mk (show n3 ≤ 100000000000003 by omega)
  clear hr hm hc hg hn3 hl hll
  go_enter Try.func18, Try.ntmps18
  go_wp2_with fail
  refine wp_region_held_drew (S := (fun _ => True)) (by kernel_rfl) ?_ (fun hHeld => ?_)
  · have HPn := Aside0.mk (HP.out.drewN 1)
    rw [← World.drew_is_drewN] at HPn
    clear HP
    have HP := HPn
    clear HPn
    first | done | trivial
  have HPn := Aside0.mk (HP.out.drewN 1)
  rw [← World.drew_is_drewN] at HPn
  clear HP
  have HP := HPn
  clear HPn
  refine wpAnyH_take (i := 0) (oi := ({ dst := (some 5), op := (Op.move (Operand.tmp 0)), type := 22, pos := "kit.go:34", after := #[], guard := none } : Oper)) (v := ?_) rfl (by kernel_rfl) (by kernel_rfl) (by kernel_rfl) (fun _ _ _ h => h) (Or.inl ⟨by rfl, ?_⟩) hHeld ?_
  rotate_left
  · intro w_ hSw; (try dsimp only at hSw); go_simp; try (with_reducible rfl)
  try simp only [Act.put, List.setIfInBounds_toArray, List.set_cons_zero, List.set_cons_succ]
  refine wpAnyH_take (i := 1) (oi := ({ dst := (some 6), op := (Op.call { callee := (Callee.builtin Builtin.len), args := #[(Operand.tmp 5)], argTypes := #[22] }), type := 3, pos := "kit.go:34", after := #[{ on := 0, ground := Ground.data }], guard := none } : Oper)) (v := ?_) rfl (by kernel_rfl) (by kernel_rfl) (by kernel_rfl) (fun _ _ _ h => h) (Or.inl ⟨by rfl, ?_⟩) hHeld ?_
  rotate_left
  · intro w_ hSw; (try dsimp only at hSw); go_simp; try (with_reducible rfl)
  try simp only [Act.put, List.setIfInBounds_toArray, List.set_cons_zero, List.set_cons_succ]
  refine wpAnyH_take (i := 2) (oi := ({ dst := (some 7), op := (Op.move (Operand.tmp 1)), type := 22, pos := "kit.go:34", after := #[], guard := none } : Oper)) (v := ?_) rfl (by kernel_rfl) (by kernel_rfl) (by kernel_rfl) (fun _ _ _ h => h) (Or.inl ⟨by rfl, ?_⟩) hHeld ?_
  rotate_left
  · intro w_ hSw; (try dsimp only at hSw); go_simp; try (with_reducible rfl)
  try simp only [Act.put, List.setIfInBounds_toArray, List.set_cons_zero, List.set_cons_succ]
  refine wpAnyH_take (i := 3) (oi := ({ dst := (some 8), op := (Op.call { callee := (Callee.builtin Builtin.len), args := #[(Operand.tmp 7)], argTypes := #[22] }), type := 3, pos := "kit.go:34", after := #[{ on := 2, ground := Ground.data }], guard := none } : Oper)) (v := ?_) rfl (by kernel_rfl) (by kernel_rfl) (by kernel_rfl) (fun _ _ _ h => h) (Or.inl ⟨by rfl, ?_⟩) hHeld ?_
  rotate_left
  · intro w_ hSw; (try dsimp only at hSw); go_simp; try (with_reducible rfl)
  try simp only [Act.put, List.setIfInBounds_toArray, List.set_cons_zero, List.set_cons_succ]
  refine wpAnyH_take (i := 4) (oi := ({ dst := (some 9), op := (Op.binOp BinOp.eql 3 (Operand.tmp 6) (Operand.tmp 8) 3), type := 4, pos := "kit.go:34", after := #[{ on := 1, ground := Ground.data }, { on := 3, ground := Ground.data }], guard := none } : Oper)) (v := ?_) rfl (by kernel_rfl) (by kernel_rfl) (by kernel_rfl) (fun _ _ _ h => h) (Or.inl ⟨by rfl, ?_⟩) hHeld ?_
  rotate_left
  · intro w_ hSw; (try dsimp only at hSw); go_simp; try (with_reducible rfl)
  try simp only [Act.put, List.setIfInBounds_toArray, List.set_cons_zero, List.set_cons_succ]
  refine wpAnyH_take (i := 5) (oi := ({ dst := (some 10), op := (Op.move (Operand.tmp 9)), type := 4, pos := "kit.go:34", after := #[{ on := 4, ground := Ground.data }], guard := none } : Oper)) (v := ?_) rfl (by kernel_rfl) (by kernel_rfl) (by kernel_rfl) (fun _ _ _ h => h) (Or.inl ⟨by rfl, ?_⟩) hHeld ?_
  rotate_left
  · intro w_ hSw; (try dsimp only at hSw); go_simp; try (with_reducible rfl)
  try simp only [Act.put, List.setIfInBounds_toArray, List.set_cons_zero, List.set_cons_succ]
  refine wpAnyH_take (i := 6) (oi := ({ dst := (some 11), op := (Op.move (Operand.tmp 0)), type := 22, pos := "kit.go:34", after := #[{ on := 5, ground := Ground.guard }], guard := (some (5, true)) } : Oper)) (v := ?_) rfl (by kernel_rfl) (by kernel_rfl) (by kernel_rfl) (fun _ _ _ h => h) (Or.inl ⟨by rfl, ?_⟩) hHeld ?_
  rotate_left
  · intro w_ hSw; (try dsimp only at hSw); go_simp; try (with_reducible rfl)
  try simp only [Act.put, List.setIfInBounds_toArray, List.set_cons_zero, List.set_cons_succ]
  refine wpAnyH_take (i := 7) (oi := ({ dst := (some 12), op := (Op.move (Operand.tmp 0)), type := 22, pos := "kit.go:34", after := #[{ on := 5, ground := Ground.guard }], guard := (some (5, true)) } : Oper)) (v := ?_) rfl (by kernel_rfl) (by kernel_rfl) (by kernel_rfl) (fun _ _ _ h => h) (Or.inl ⟨by rfl, ?_⟩) hHeld ?_
  rotate_left
  · intro w_ hSw; (try dsimp only at hSw); go_simp; try (with_reducible rfl)
  try simp only [Act.put, List.setIfInBounds_toArray, List.set_cons_zero, List.set_cons_succ]
  refine wpAnyH_take (i := 8) (oi := ({ dst := (some 13), op := (Op.call { callee := (Callee.builtin Builtin.cap), args := #[(Operand.tmp 12)], argTypes := #[22] }), type := 3, pos := "kit.go:34", after := #[{ on := 7, ground := Ground.data }, { on := 5, ground := Ground.guard }], guard := (some (5, true)) } : Oper)) (v := ?_) rfl (by kernel_rfl) (by kernel_rfl) (by kernel_rfl) (fun _ _ _ h => h) (Or.inl ⟨by rfl, ?_⟩) hHeld ?_
  rotate_left
  · intro w_ hSw; (try dsimp only at hSw); go_simp; try (with_reducible rfl)
  try simp only [Act.put, List.setIfInBounds_toArray, List.set_cons_zero, List.set_cons_succ]
  refine wpAnyH_take (i := 9) (oi := ({ dst := (some 14), op := (Op.slice 22 (Operand.tmp 11) none (some (Operand.tmp 13)) none), type := 22, pos := "kit.go:34", after := #[{ on := 6, ground := Ground.data }, { on := 8, ground := Ground.data }, { on := 5, ground := Ground.guard }], guard := (some (5, true)) } : Oper)) (v := ?_) rfl (by kernel_rfl) (by kernel_rfl) (by kernel_rfl) (fun _ _ _ h => h) (Or.inl ⟨by rfl, ?_⟩) hHeld ?_
  rotate_left
  · intro w_ hSw; (try dsimp only at hSw); go_simp; try (with_reducible rfl)
  try simp only [Act.put, List.setIfInBounds_toArray, List.set_cons_zero, List.set_cons_succ]
  refine wpAnyH_take (i := 10) (oi := ({ dst := (some 15), op := (Op.move (Operand.tmp 1)), type := 22, pos := "kit.go:34", after := #[{ on := 5, ground := Ground.guard }], guard := (some (5, true)) } : Oper)) (v := ?_) rfl (by kernel_rfl) (by kernel_rfl) (by kernel_rfl) (fun _ _ _ h => h) (Or.inl ⟨by rfl, ?_⟩) hHeld ?_
  rotate_left
  · intro w_ hSw; (try dsimp only at hSw); go_simp; try (with_reducible rfl)
  try simp only [Act.put, List.setIfInBounds_toArray, List.set_cons_zero, List.set_cons_succ]
  refine wpAnyH_take (i := 12) (oi := ({ dst := (some 17), op := (Op.move (Operand.tmp 1)), type := 22, pos := "kit.go:34", after := #[{ on := 5, ground := Ground.guard }], guard := (some (5, true)) } : Oper)) (v := ?_) rfl (by kernel_rfl) (by kernel_rfl) (by kernel_rfl) (fun _ _ _ h => h) (Or.inl ⟨by rfl, ?_⟩) hHeld ?_
  rotate_left
  · intro w_ hSw; (try dsimp only at hSw); go_simp; try (with_reducible rfl)
  try simp only [Act.put, List.setIfInBounds_toArray, List.set_cons_zero, List.set_cons_succ]
  refine wpAnyH_take (i := 13) (oi := ({ dst := (some 18), op := (Op.call { callee := (Callee.builtin Builtin.len), args := #[(Operand.tmp 17)], argTypes := #[22] }), type := 3, pos := "kit.go:34", after := #[{ on := 12, ground := Ground.data }, { on := 5, ground := Ground.guard }], guard := (some (5, true)) } : Oper)) (v := ?_) rfl (by kernel_rfl) (by kernel_rfl) (by kernel_rfl) (fun _ _ _ h => h) (Or.inl ⟨by rfl, ?_⟩) hHeld ?_
  rotate_left
  · intro w_ hSw; (try dsimp only at hSw); go_simp; try (with_reducible rfl)
  try simp only [Act.put, List.setIfInBounds_toArray, List.set_cons_zero, List.set_cons_succ]
  refine wpAnyH_take (i := 14) (oi := ({ dst := (some 19), op := (Op.binOp BinOp.add 3 (Operand.tmp 18) (Operand.const (Value.int IntKind.i64 3)) 3), type := 3, pos := "kit.go:34", after := #[{ on := 13, ground := Ground.data }, { on := 5, ground := Ground.guard }], guard := (some (5, true)) } : Oper)) (v := ?_) rfl (by kernel_rfl) (by kernel_rfl) (by kernel_rfl) (fun _ _ _ h => h) (Or.inl ⟨by rfl, ?_⟩) hHeld ?_
  rotate_left
  · intro w_ hSw; (try dsimp only at hSw); go_simp; try (with_reducible rfl)
  try simp only [Act.put, List.setIfInBounds_toArray, List.set_cons_zero, List.set_cons_succ]
  refine wpAnyH_ready (rs := [11]) (by kernel_rfl) (by simp) ?_
  refine AllReadyH.cons (o := ({ dst := (some 16), op := (Op.call { callee := (Callee.value (Operand.func 9)), args := #[(Operand.tmp 15)], argTypes := #[22] }), type := 22, pos := "kit.go:34", after := #[{ on := 10, ground := Ground.data }, { on := 5, ground := Ground.chain }, { on := 5, ground := Ground.guard }], guard := (some (5, true)) } : Oper)) rfl (fun K hK => ?_) AllReadyH.nil
  go_simp
  go_at_call 9; (with_reducible refine (CL.out _ (Kd.C_below HR.out HP.out.below)).mono ?_); rintro e w5 ⟨g2, rfl, hge, hg, hb⟩; have HPn := Aside0.mk (HP.out.newB hb hg hge); clear HP; have HP := HPn; clear HPn; clear hge hg hb
  go_wp2_with fail
  clear hHeld
  refine hK.out _ _ ?_ (fun hHeld => ?_)
  · (try dsimp only); first | done | trivial
  clear hK K
  try simp only [Act.put, List.setIfInBounds_toArray, List.set_cons_zero, List.set_cons_succ]
  refine wpAnyH_take (i := 15) (oi := ({ dst := (some 20), op := (Op.slice 22 (Operand.tmp 16) none (some (Operand.tmp 19)) none), type := 22, pos := "kit.go:34", after := #[{ on := 11, ground := Ground.data }, { on := 14, ground := Ground.data }, { on := 5, ground := Ground.guard }], guard := (some (5, true)) } : Oper)) (v := ?_) rfl (by kernel_rfl) (by kernel_rfl) (by kernel_rfl) (fun _ _ _ h => h) (Or.inl ⟨by rfl, ?_⟩) hHeld ?_
  rotate_left
  · intro w_ hSw; (try dsimp only at hSw); go_simp; try (with_reducible rfl)
  try simp only [Act.put, List.setIfInBounds_toArray, List.set_cons_zero, List.set_cons_succ]
  refine wpAnyH_ready (rs := [16]) (by kernel_rfl) (by simp) ?_
  refine AllReadyH.cons (o := ({ dst := (some 21), op := (Op.call { callee := (Callee.value (Operand.func 14)), args := #[(Operand.tmp 14), (Operand.tmp 20)], argTypes := #[22, 22] }), type := 4, pos := "kit.go:34", after := #[{ on := 9, ground := Ground.data }, { on := 15, ground := Ground.data }, { on := 11, ground := Ground.chain }, { on := 5, ground := Ground.guard }], guard := (some (5, true)) } : Oper)) rfl (fun K hK => ?_) AllReadyH.nil
  go_simp
  go_at_call 14; rw [← HLL.out]; refine (retconkit_SameBytes.calls (some ⟨g, 0, none⟩) _ l (some ⟨g2, 0, none⟩) _ l true _ (C_blkW ((HP.out.below.block g HLT.out).trans HB.out) (by have := HLL.out; have := HM.out; have := HNM.out; omega)) (Nat.le_refl _) (C_blkW (HP.out.blk 0 rfl) (by have := HLL.out; have := HM.out; have := HNM.out; omega)) (Nat.le_refl _) (same_f l)).mono ?_; rintro e w6 ⟨rfl, n6, rfl⟩; have HPn := Aside0.mk (HP.out.drewN n6); clear HP; have HP := HPn; clear HPn
  go_wp2_with fail
  clear hHeld
  refine hK.out _ _ ?_ (fun hHeld => ?_)
  · (try dsimp only); first | done | trivial
  clear hK K
  try simp only [Act.put, List.setIfInBounds_toArray, List.set_cons_zero, List.set_cons_succ]
  refine wpAnyH_take (i := 17) (oi := ({ dst := (some 22), op := (Op.pick (Operand.tmp 10) (Operand.tmp 21) (Operand.const (Value.bool false))), type := 4, pos := "kit.go:34", after := #[{ on := 5, ground := Ground.data }, { on := 16, ground := Ground.data }], guard := none } : Oper)) (v := ?_) rfl (by kernel_rfl) (by kernel_rfl) (by kernel_rfl) (fun _ _ _ h => h) (Or.inl ⟨by rfl, ?_⟩) hHeld ?_
  rotate_left
  · intro w_ hSw; (try dsimp only at hSw); go_simp; try (with_reducible rfl)
  try simp only [Act.put, List.setIfInBounds_toArray, List.set_cons_zero, List.set_cons_succ]
  refine wpAnyH_take (i := 18) (oi := ({ dst := (some 4), op := (Op.assign (Operand.tmp 22)), type := 4, pos := "kit.go:34", after := #[{ on := 17, ground := Ground.data }, { on := 16, ground := Ground.chain }, { on := 0, ground := Ground.phase }, { on := 1, ground := Ground.phase }, { on := 2, ground := Ground.phase }, { on := 3, ground := Ground.phase }, { on := 4, ground := Ground.phase }, { on := 5, ground := Ground.phase }, { on := 6, ground := Ground.phase }, { on := 7, ground := Ground.phase }, { on := 8, ground := Ground.phase }, { on := 9, ground := Ground.phase }, { on := 10, ground := Ground.phase }, { on := 11, ground := Ground.phase }, { on := 12, ground := Ground.phase }, { on := 13, ground := Ground.phase }, { on := 14, ground := Ground.phase }, { on := 15, ground := Ground.phase }, { on := 16, ground := Ground.phase }, { on := 17, ground := Ground.phase }], guard := none } : Oper)) (v := ?_) rfl (by kernel_rfl) (by kernel_rfl) (by kernel_rfl) (fun _ _ _ h => h) (Or.inl ⟨by rfl, ?_⟩) hHeld ?_
  rotate_left
  · intro w_ hSw; (try dsimp only at hSw); go_simp; try (with_reducible rfl)
  try simp only [Act.put, List.setIfInBounds_toArray, List.set_cons_zero, List.set_cons_succ]
  refine wpAnyH_done (by kernel_rfl) ?_ _
  go_wp2
  go_ret
  exact ⟨rfl, HP.out.below⟩
set_option maxHeartbeats 8000000 in
set_option maxRecDepth 100000 in
theorem c_over {w0 w : World} {Rs : List Res} (HP0 : Hp w0 w Rs) (i g : Nat) (l : List Int) (n : Nat) (hi : Rs[i]? = some (.blk g (.cells (u8s l).toArray 5 (0, 0)))) (hn : n ≤ l.length) (hm : l.length ≤ 100000000000000) :
    Calls Try.prog 17 #[.slice (some ⟨g, 0, none⟩) n l.length] w fun e w' => e = .returned (.tuple #[]) ∧ ∃ l' : List Int, l'.length = l.length ∧ Hp w0 w' (Rs.set i (.blk g (.cells (u8s l').toArray 5 (0, 0)))) := by
  have hlt : i < Rs.length := (List.getElem?_eq_some_iff.1 hi).1
  have HP := Aside0.mk (show Hp w0 w (Rs.set i (.blk g (.cells (u8s l).toArray 5 (0, 0)))) from by rw [set_self hi]; exact HP0)
  have HM := Aside0.mk hm
  have HI := Aside0.mk hlt
  have k0 : (n : Int) ≤ (l.length : Int) := by omega
  have k1 : (0 : Int) ≤ (l.length : Int) := by omega
  clear hm hlt hi HP0
  go_enter Try.func17, Try.ntmps17
  go_wp2_with fail
  clear k0
  go_loopg [3] l.length (fun kq v3 w' => ∃ (j : Nat) (x : Int) (l' : List Int), v3 = .int .i64 x ∧ Aside0 (x = (j : Int)) ∧ Aside0 (kq + j = l.length) ∧ Aside0 (l'.length = l.length) ∧ Aside0 (Hp w0 w' (Rs.set i (.blk g (.cells (u8s l').toArray 5 (0, 0))))))
  case atStart => exact ⟨0, 0, l, rfl, ⟨rfl⟩, ⟨rfl⟩, ⟨rfl⟩, HP⟩
  clear HP
  obtain ⟨j, x, l', rfl, HX, HK, HL, HP⟩ := hrel
  have hx := HX.out
  have hm := HM.out
  have hset : ∀ R, (Rs.set i R)[i]? = some R := fun R => by rw [List.getElem?_set]; simp [HI.out]
  by_cases c1 : j < l.length
  · have d1 : decide (x < (l.length : Int)) = true := decide_eq_true (by omega)
    have ex := i64k (x := x + 1) rfl (by omega)
    have p0 : 0 ≤ x := by omega
    have q0 : x < (l.length : Int) := by omega
    have hcw := cellL (HP.out.blk i (hset _)) x p0 (by rw [HL.out]; exact q0)
    have hfw := frozC (HP.out.blk i (hset _)) x.toNat
    obtain ⟨c, hc⟩ : ∃ c, rd l' x = c := ⟨_, rfl⟩
    rw [hc] at hcw
    have HC1 := Aside0.mk c1
    clear hx hm c1 hset hc
    go_wp2
    have hset : ∀ R, (Rs.set i R)[i]? = some R := fun R => by rw [List.getElem?_set]; simp [HI.out]
    have HPn := HP.out.setCell i (hset _) x.toNat (.int .u8 (Go.bits .xor .u8 c 90))
    rw [List.set_set, show (u8s l').toArray.setIfInBounds x.toNat (.int .u8 (Go.bits .xor .u8 c 90)) = (u8s (l'.set x.toNat (Go.bits .xor .u8 c 90))).toArray from setL (k := .u8) _ _ _] at HPn
    go_roundg (gk - 1)
    case measure => have := HK.out; have := HC1.out; omega
    case rel => exact ⟨j + 1, x + 1, _, by simp, ⟨by have := HX.out; omega⟩, ⟨by have := HK.out; have := HC1.out; omega⟩, ⟨by rw [List.length_set]; exact HL.out⟩, ⟨HPn⟩⟩
  · have d1 : decide (x < (l.length : Int)) = false := decide_eq_false (by have := HK.out; omega)
    clear hx hm hset c1
    go_wp2
    exact bodyPost_end (v := .tuple #[]) (by simp [results, Try.results17, go_sem]) rfl ⟨rfl, l', HL.out, HP.out⟩
end Go.Proofs.Ytncmbkjjoamfjaa.H
