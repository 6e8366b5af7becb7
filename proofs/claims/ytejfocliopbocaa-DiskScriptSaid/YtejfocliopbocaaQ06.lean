import Derived.Test.YtejfocliopbocaaQ05
import Derived.Deep.RegionHeld3
import Derived.Deep.DrawnRows
import Derived.Test.YtejfocliopbocaaQ02
namespace Go.Proofs.Ytejfocliopbocaa.H
def u8s (l : List Int) : List Value := l.map (Value.int .u8)
theorem u8s_len (l : List Int) : (u8s l).length = l.length := List.length_map ..
def Bytes (l : List Int) : Prop := ∀ x ∈ l, 0 ≤ x ∧ x < 256
end Go.Proofs.Ytejfocliopbocaa.H
namespace Go.Proofs.Ytejfocliopbocaa.Su
open Go.Proofs.Ytejfocliopbocaa.H
open Go.RowKit Go.Proofs.Ytejfocliopbocaa.XD Go.Proofs.YtejfocliopbocaaW.PrintWords Go.Proofs.YtejfocliopbocaaW.PrintLast Go.Proofs.YtejfocliopbocaaW.PrintMore Go.Proofs.YtejfocliopbocaaXe Go.Proofs.YtejfocliopbocaaXs
set_option linter.unusedVariables false
set_option linter.unusedSimpArgs false
attribute [local go_sem ↓] Go.wp_at_zero Go.wp_at_succ
open Go.Proofs.Ytejfocliopbocaa.D hiding c_len c_new c_write
theorem results_two_tmps {P : Program} {fn : Func} {p p2 : Tmp} (h : fn.results = #[.tmp p, .tmp p2]) (tmps : Array Value) (w : World) {v v2 : Value} (hp : tmps.getD p undef = v) (hp2 : tmps.getD p2 undef = v2) : (results fn tmps).run P w = .ok (.tuple #[v, v2]) w := by
  have hp' : tmps[p]?.getD undef = v := by simpa using hp
  have hp2' : tmps[p2]?.getD undef = v2 := by simpa using hp2
  simp [results, h, hp', hp2']
theorem C_len {w : World} {A : Option Addr} {n : Nat} {l : List Int} (h : Kd.C (Kd.int .u8) w A n l) : l.length = n := h.1
theorem C_tk {w : World} {A : Option Addr} {n : Nat} {l m : List Int} (h : Kd.C (Kd.int .u8) w A n l) (k : Nat) (hk : k ≤ n) (hm : l.take k = m) : Kd.C (Kd.int .u8) w A k m := by
  have hl := C_len h
  subst hl
  have h1 := Kd.C_take (m := k) h (show k ≤ l.length by omega)
  have e : (l.take k).length = k := by rw [List.length_take]; omega
  subst hm
  first | exact h1 | (rw [e] at h1; exact h1)
/-- how a sector reads -/
def sec (S : DS) (k : Int) : List Int := putF S.at' S.l k
def okD (S : DS) : Prop := (∀ k, (S.at' k).length = 64 ∧ Bytes (S.at' k)) ∧ (∀ p ∈ S.l, p.2.length = 64 ∧ Bytes p.2) ∧ S.l.length ≤ 1000
theorem putF_ok : ∀ (l : List (Int × List Int)) (f : Int → List Int), (∀ k, (f k).length = 64 ∧ Bytes (f k)) → (∀ p ∈ l, p.2.length = 64 ∧ Bytes p.2) → ∀ k, (putF f l k).length = 64 ∧ Bytes (putF f l k)
  | [], f, h, _, k => h k
  | p :: l, f, h, hl, k => by
    unfold putF
    rw [List.foldl_cons]
    refine putF_ok l _ (fun j => ?_) (fun q hq => hl q (List.mem_cons_of_mem _ hq)) k
    split
    · exact hl p List.mem_cons_self
    · exact h j
theorem sec_ok {S : DS} (h : okD S) (k : Int) : (sec S k).length = 64 ∧ Bytes (sec S k) := putF_ok S.l S.at' h.1 h.2.1 k
theorem ev_make {P : Program} {ops : Array Oper} {rest : List Oper} {o : Oper} {a : Act} {Q : Exit → Act → World → Prop} {W : World} (hw : Region.wanted o (yielded ops a.tmps) = true) (t : TypeId) (x y : Operand) (ho : o.op = .makeSlice t x y)
    {vx vy v : Value} {w1 : World} (hx : a.eval x = vx) (hy : a.eval y = vy) (hr : (Instr.makeSlice t vx vy).run P W = .ok v w1) (h : wpList P ops Q rest (a.put o.dst v) w1) : wpList P ops Q (o :: rest) a W :=
  ev_run hw (by simp [execOp, ho, hx, hy, hr]) h
def s64' : List Int := List.replicate 64 0
theorem s64'_b : Bytes s64' := fun x hx => by rw [(List.mem_replicate.1 hx).2]; decide
end Go.Proofs.Ytejfocliopbocaa.Su
namespace Go.Proofs.Ytejfocliopbocaa.Su
open Go.Proofs.Ytejfocliopbocaa.H
open Go.RowKit Go.Proofs.Ytejfocliopbocaa.XD Go.Proofs.YtejfocliopbocaaW.PrintWords Go.Proofs.YtejfocliopbocaaW.PrintLast Go.Proofs.YtejfocliopbocaaW.PrintMore Go.Proofs.YtejfocliopbocaaXe Go.Proofs.YtejfocliopbocaaXs
set_option linter.unusedVariables false
set_option linter.unusedSimpArgs false
attribute [local go_sem ↓] Go.wp_at_zero Go.wp_at_succ
open Go.Proofs.Ytejfocliopbocaa.D hiding c_len c_new c_write
set_option maxRecDepth 100000 in
theorem run_make8 (n : Nat) (hn : n ≤ 281474976710656) (w : World) : (Instr.makeSlice 27 (.int .i64 (n : Int)) (.int .i64 (n : Int))).run Try.prog w = .ok (.slice (some ⟨w.heap.size, 0, none⟩) n n) (w.alloc (.cells (u8s (List.replicate n 0)).toArray 5)) := by
  obtain ⟨i, hi, hz, hs, hb⟩ := info_parts info5
  have h := run_make (P := Try.prog) w 27 5 i _ Try.underlying27 hi hz .i64 .i64 n n (by omega) (by omega) (by rw [hb]; omega) (by omega)
  rw [Int.toNat_natCast, hs] at h
  rw [h]
  congr 3
  apply Array.ext'
  simp [madeCells, Value.cells, u8s, Nat.mod_one, List.map_const']
/-- the marks behind bytes that are lent -/
def lentT (n : Nat) : List Int := [160 + (n : Int) % 90, 160 + ((n + 1 : Nat) : Int) % 90, 160 + ((n + 2 : Nat) : Int) % 90]
def lentS (b : List Int) (j : Nat) : List Int := b ++ ((lentT b.length).take j ++ List.replicate (3 - j) 0)
theorem lentS_len (b : List Int) (j : Nat) (h : j ≤ 3) : (lentS b j).length = b.length + 3 := by simp [lentS, lentT]; omega
theorem lentS_step (b : List Int) (j : Nat) (h : j < 3) : (lentS b j).set (b.length + j) (160 + ((b.length + j : Nat) : Int) % 90) = lentS b (j + 1) := by
  unfold lentS
  rw [List.set_append_right _ _ (by omega), Nat.add_sub_cancel_left]
  congr 1
  match j, h with
  | 0, _ => rfl
  | 1, _ => rfl
  | 2, _ => rfl
set_option maxHeartbeats 8000000 in
set_option maxRecDepth 100000 in
theorem c_lent (A : Option Addr) (c : Nat) (b : List Int) (w : World) (hr : Kd.C (Kd.int .u8) w A b.length b) (hc : b.length ≤ c) (hm : b.length ≤ 100000000000000) :
    Calls Try.prog 34 #[.slice A b.length c] w fun e w' => ∃ g, e = .returned (.slice (some ⟨g, 0, none⟩) b.length (b.length + 3)) ∧ w.heap.size ≤ g ∧ w'.heap[g]? = some (.cells (u8s (b ++ lentT b.length)).toArray 5 (0, 0)) ∧ Below w.heap.size w w' := by
  have HR := Aside0.mk hr
  have HM := Aside0.mk hm
  have HP := Aside0.mk (Hp.start w)
  obtain ⟨n3, hn3⟩ : ∃ n3, b.length + 3 = n3 := ⟨_, rfl⟩
  have e1 := i64k (x := (b.length : Int) + 3) (y := (n3 : Int)) (by omega) (by omega)
  have hmk := run_make8 n3 (by omega) w
  have HN3 := Aside0.mk hn3
  obtain ⟨g, hg⟩ : ∃ g, w.heap.size = g := ⟨_, rfl⟩
  obtain ⟨w1, hw1⟩ : ∃ w1, w.alloc (.cells (u8s (List.replicate n3 0)).toArray 5 (0, 0)) = w1 := ⟨_, rfl⟩
  have HP1 := Aside0.mk (HP.out.alloc (.cells (u8s (List.replicate n3 0)).toArray 5 (0, 0)))
  rw [hw1, hg] at HP1
  rw [hw1, hg] at hmk
  have HG := Aside0.mk hg
  have e2 : splice (u8s (List.replicate n3 0)) 0 (u8s b) = u8s (lentS b 0) := by
    have := HN3.out
    unfold splice lentS u8s
    rw [List.take_zero, List.nil_append, Nat.zero_add, List.length_map, ← List.map_drop, ← List.map_append, List.drop_replicate, show n3 - b.length = 3 by omega]
    rfl
  have HE2 := Aside0.mk e2
  have HCS := Aside0.mk (show u8s b = (b.take n3).map (Value.int .u8) from by rw [List.take_of_length_le (l := b) (i := n3) (by have := HN3.out; omega)]; rfl)
  have HFT := Aside0.mk (show 0 + (u8s b).length ≤ (u8s (List.replicate n3 0)).length from by rw [u8s_len, u8s_len, List.length_replicate]; have := HN3.out; omega)
  clear e2 HP hw1 hg
  have HP := HP1
  clear HP1
  clear hr hm hc hn3
  go_enter Try.func34, Try.ntmps34
  go_wp2_with (first | ((with_reducible refine gate_dst (N := 8) rfl ?_); refine ev_run rfl hmk ?_) | ((with_reducible refine gate_builtin (b := .copy) (xs := #[.tmp 9, .tmp 10]) rfl ?_); refine ev_copy HP.out 0 rfl rfl (.tmp 9) (.tmp 10) 27 27 rfl 5 Try.underlying27 (by kernel_rfl) n3 n3 rfl rfl (rfl : b.length = b.length) (Kd.C_below HR.out HP.out.below) HCS.out HFT.out (u8s_len b) ?_; intro w2 hp2; clear HP; have HP := Aside0.mk hp2; clear hp2))
  rw [HE2.out] at HP
  have HP1 := Aside0.mk (show Hp w w2 [.blk g (.cells (u8s (lentS b 0)).toArray 5 (0, 0))] from HP.out)
  clear HP HE2
  go_loopg [4] 3 (fun kq v4 w' => ∃ (j : Nat) (x : Int), v4 = .int .i64 x ∧ Aside0 (x = ((b.length + j : Nat) : Int)) ∧ Aside0 (kq + j = 3) ∧ Aside0 (Hp w w' [.blk g (.cells (u8s (lentS b j)).toArray 5 (0, 0))]))
  case atStart => exact ⟨0, (b.length : Int), rfl, ⟨rfl⟩, ⟨rfl⟩, HP1⟩
  clear HP1
  obtain ⟨j, x, rfl, HX, HK, HP⟩ := hrel
  have hx := HX.out
  have hn3 := HN3.out
  have hm := HM.out
  by_cases c1 : j < 3
  · have d1 : decide (x < (n3 : Int)) = true := decide_eq_true (by omega)
    have ex := i64k (x := x + 1) rfl (by omega)
    have p0 : 0 ≤ x := by omega
    have q0 : x < (n3 : Int) := by omega
    obtain ⟨y, hy⟩ : ∃ y, x % 90 = y := ⟨_, rfl⟩
    have ey : Int.tmod x 90 = y := by rw [Int.tmod_eq_emod_of_nonneg (by omega)]; exact hy
    obtain ⟨z, hz⟩ : ∃ z, 160 + y = z := ⟨_, rfl⟩
    have ez := i64k hz (by omega)
    have ez8 : IntKind.u8.wrap z = z := by rw [IntKind.wrap_u8]; omega
    have ez9 : z % 256 = z := by omega
    have hcw := cellL (HP.out.blk 0 rfl) x p0 (by rw [lentS_len _ _ (by omega)]; omega)
    have hfw := frozC (HP.out.blk 0 rfl) x.toNat
    have HZ := Aside0.mk (And.intro hy hz)
    have HC1 := Aside0.mk c1
    clear hx hm hn3 hy hz c1
    go_wp2
    have hyn : x.toNat = b.length + j := by have := HX.out; omega
    have hzv : z = 160 + ((b.length + j : Nat) : Int) % 90 := by rw [← HZ.out.2, ← HZ.out.1, HX.out]
    have HPn := Aside0.mk (HP.out.setCell 0 rfl (b.length + j) (.int .u8 z))
    rw [show (u8s (lentS b j)).toArray.setIfInBounds (b.length + j) (.int .u8 z) = (u8s (lentS b (j + 1))).toArray from by rw [← lentS_step b j HC1.out, ← hzv]; exact setL (k := .u8) _ _ _, ← hyn] at HPn
    go_roundg (gk - 1)
    case measure => have := HK.out; have := HC1.out; omega
    case rel => exact ⟨j + 1, x + 1, by simp, ⟨by have := HX.out; omega⟩, ⟨by have := HK.out; have := HC1.out; omega⟩, HPn⟩
  · have d1 : decide (x < (n3 : Int)) = false := decide_eq_false (by omega)
    obtain rfl : j = 3 := by have := HK.out; omega
    have k1 : (b.length : Int) ≤ (n3 : Int) := by omega
    clear hx hm hn3 c1
    rw [show lentS b 3 = b ++ lentT b.length from by simp [lentS, lentT]] at HP
    go_wp2
    obtain rfl := HN3.out
    go_ret
    exact ⟨g, rfl, by rw [HG.out]; exact Nat.le_refl _, HP.out.blk 0 rfl, HP.out.below⟩
theorem C_blkW {w : World} {g : Nat} {l : List Int} {t : TypeId} {k : IntKind} (hg : w.heap[g]? = some (.cells (l.map (Value.int k)).toArray t (0, 0))) (hl : l.length ≤ 9223372036854775807) : Kd.C (Kd.int k) w (some ⟨g, 0, none⟩) l.length l := by
  refine C_ints hl fun j x hj => ?_
  rw [add_at, cell_of_row w g _ _ _ _ hg]
  simp [hj]
theorem same_f (l : List Int) : retconkit_SameBytes.f l l = some true := by simp [retconkit_SameBytes.f]
theorem lent_len (b : List Int) : (b ++ lentT b.length).length = b.length + 3 := by simp [lentT]
set_option maxHeartbeats 8000000 in
set_option maxRecDepth 100000 in
theorem c_kept (g : Nat) (A : Option Addr) (c : Nat) (b : List Int) (w : World) (hg : w.heap[g]? = some (.cells (u8s (b ++ lentT b.length)).toArray 5 (0, 0))) (hr : Kd.C (Kd.int .u8) w A b.length b) (hc : b.length ≤ c) (hm : b.length ≤ 100000000000000) :
    Calls Try.prog 36 #[.slice (some ⟨g, 0, none⟩) b.length (b.length + 3), .slice A b.length c] w fun e w' => e = .returned (.bool true) ∧ Below w.heap.size w w' := by
  have HR := Aside0.mk hr
  have HM := Aside0.mk hm
  have HC := Aside0.mk hc
  have HB := Aside0.mk hg
  have HLT := Aside0.mk (blk_lt hg)
  have HP := Aside0.mk (Hp.start w)
  obtain ⟨n3, hn3⟩ : ∃ n3, b.length + 3 = n3 := ⟨_, rfl⟩
  have e1 := i64k (x := (b.length : Int) + 3) (y := (n3 : Int)) (by omega) (by omega)
  have k0 : (0 : Int) ≤ (n3 : Int) := by omega
  have CL := Aside0.mk (fun w hr => c_lent A c b w hr hc hm)
  obtain ⟨l, hl⟩ : ∃ l, b ++ lentT b.length = l := ⟨_, rfl⟩
  have hll := lent_len b
  rw [hl] at hll HB
  rw [hl, hn3] at CL
  rw [hn3]
  have HLL := Aside0.mk (hll.trans hn3)
  have HNM := Aside0.mk (show n3 ≤ 100000000000003 by omega)
  clear hr hm hc hg hn3 hl hll
  go_enter Try.func36, Try.ntmps36
  go_wp2_with fail
  refine wp_region_held_drew (S := (fun _ => True)) (by kernel_rfl) ?_ (fun hHeld => ?_)
  · have HPn := Aside0.mk (HP.out.drewN 1)
    rw [← World.drew_is_drewN] at HPn
    clear HP
    have HP := HPn
    clear HPn
    first | done | trivial
  have HPn := Aside0.mk (HP.out.drewN 1)
  rw [← World.drew_is_drewN] at HPn
  clear HP
  have HP := HPn
  clear HPn
  refine wpAnyH_take (i := 0) (oi := ({ dst := (some 5), op := (Op.move (Operand.tmp 0)), type := 27, pos := "kit.go:34", after := #[], guard := none } : Oper)) (v := ?_) rfl (by kernel_rfl) (by kernel_rfl) (by kernel_rfl) (fun _ _ _ h => h) (Or.inl ⟨by rfl, ?_⟩) hHeld ?_
  rotate_left
  · intro w_ hSw; (try dsimp only at hSw); go_simp; try (with_reducible rfl)
  try simp only [Act.put, List.setIfInBounds_toArray, List.set_cons_zero, List.set_cons_succ]
  refine wpAnyH_take (i := 1) (oi := ({ dst := (some 6), op := (Op.call { callee := (Callee.builtin Builtin.len), args := #[(Operand.tmp 5)], argTypes := #[27] }), type := 3, pos := "kit.go:34", after := #[{ on := 0, ground := Ground.data }], guard := none } : Oper)) (v := ?_) rfl (by kernel_rfl) (by kernel_rfl) (by kernel_rfl) (fun _ _ _ h => h) (Or.inl ⟨by rfl, ?_⟩) hHeld ?_
  rotate_left
  · intro w_ hSw; (try dsimp only at hSw); go_simp; try (with_reducible rfl)
  try simp only [Act.put, List.setIfInBounds_toArray, List.set_cons_zero, List.set_cons_succ]
  refine wpAnyH_take (i := 2) (oi := ({ dst := (some 7), op := (Op.move (Operand.tmp 1)), type := 27, pos := "kit.go:34", after := #[], guard := none } : Oper)) (v := ?_) rfl (by kernel_rfl) (by kernel_rfl) (by kernel_rfl) (fun _ _ _ h => h) (Or.inl ⟨by rfl, ?_⟩) hHeld ?_
  rotate_left
  · intro w_ hSw; (try dsimp only at hSw); go_simp; try (with_reducible rfl)
  try simp only [Act.put, List.setIfInBounds_toArray, List.set_cons_zero, List.set_cons_succ]
  refine wpAnyH_take (i := 3) (oi := ({ dst := (some 8), op := (Op.call { callee := (Callee.builtin Builtin.len), args := #[(Operand.tmp 7)], argTypes := #[27] }), type := 3, pos := "kit.go:34", after := #[{ on := 2, ground := Ground.data }], guard := none } : Oper)) (v := ?_) rfl (by kernel_rfl) (by kernel_rfl) (by kernel_rfl) (fun _ _ _ h => h) (Or.inl ⟨by rfl, ?_⟩) hHeld ?_
  rotate_left
  · intro w_ hSw; (try dsimp only at hSw); go_simp; try (with_reducible rfl)
  try simp only [Act.put, List.setIfInBounds_toArray, List.set_cons_zero, List.set_cons_succ]
  refine wpAnyH_take (i := 4) (oi := ({ dst := (some 9), op := (Op.binOp BinOp.eql 3 (Operand.tmp 6) (Operand.tmp 8) 3), type := 4, pos := "kit.go:34", after := #[{ on := 1, ground := Ground.data }, { on := 3, ground := Ground.data }], guard := none } : Oper)) (v := ?_) rfl (by kernel_rfl) (by kernel_rfl) (by kernel_rfl) (fun _ _ _ h => h) (Or.inl ⟨by rfl, ?_⟩) hHeld ?_
  rotate_left
  · intro w_ hSw; (try dsimp only at hSw); go_simp; try (with_reducible rfl)
  try simp only [Act.put, List.setIfInBounds_toArray, List.set_cons_zero, List.set_cons_succ]
  refine wpAnyH_take (i := 5) (oi := ({ dst := (some 10), op := (Op.move (Operand.tmp 9)), type := 4, pos := "kit.go:34", after := #[{ on := 4, ground := Ground.data }], guard := none } : Oper)) (v := ?_) rfl (by kernel_rfl) (by kernel_rfl) (by kernel_rfl) (fun _ _ _ h => h) (Or.inl ⟨by rfl, ?_⟩) hHeld ?_
  rotate_left
  · intro w_ hSw; (try dsimp only at hSw); go_simp; try (with_reducible rfl)
  try simp only [Act.put, List.setIfInBounds_toArray, List.set_cons_zero, List.set_cons_succ]
  refine wpAnyH_take (i := 6) (oi := ({ dst := (some 11), op := (Op.move (Operand.tmp 0)), type := 27, pos := "kit.go:34", after := #[{ on := 5, ground := Ground.guard }], guard := (some (5, true)) } : Oper)) (v := ?_) rfl (by kernel_rfl) (by kernel_rfl) (by kernel_rfl) (fun _ _ _ h => h) (Or.inl ⟨by rfl, ?_⟩) hHeld ?_
  rotate_left
  · intro w_ hSw; (try dsimp only at hSw); go_simp; try (with_reducible rfl)
  try simp only [Act.put, List.setIfInBounds_toArray, List.set_cons_zero, List.set_cons_succ]
  refine wpAnyH_take (i := 7) (oi := ({ dst := (some 12), op := (Op.move (Operand.tmp 0)), type := 27, pos := "kit.go:34", after := #[{ on := 5, ground := Ground.guard }], guard := (some (5, true)) } : Oper)) (v := ?_) rfl (by kernel_rfl) (by kernel_rfl) (by kernel_rfl) (fun _ _ _ h => h) (Or.inl ⟨by rfl, ?_⟩) hHeld ?_
  rotate_left
  · intro w_ hSw; (try dsimp only at hSw); go_simp; try (with_reducible rfl)
  try simp only [Act.put, List.setIfInBounds_toArray, List.set_cons_zero, List.set_cons_succ]
  refine wpAnyH_take (i := 8) (oi := ({ dst := (some 13), op := (Op.call { callee := (Callee.builtin Builtin.cap), args := #[(Operand.tmp 12)], argTypes := #[27] }), type := 3, pos := "kit.go:34", after := #[{ on := 7, ground := Ground.data }, { on := 5, ground := Ground.guard }], guard := (some (5, true)) } : Oper)) (v := ?_) rfl (by kernel_rfl) (by kernel_rfl) (by kernel_rfl) (fun _ _ _ h => h) (Or.inl ⟨by rfl, ?_⟩) hHeld ?_
  rotate_left
  · intro w_ hSw; (try dsimp only at hSw); go_simp; try (with_reducible rfl)
  try simp only [Act.put, List.setIfInBounds_toArray, List.set_cons_zero, List.set_cons_succ]
  refine wpAnyH_take (i := 9) (oi := ({ dst := (some 14), op := (Op.slice 27 (Operand.tmp 11) none (some (Operand.tmp 13)) none), type := 27, pos := "kit.go:34", after := #[{ on := 6, ground := Ground.data }, { on := 8, ground := Ground.data }, { on := 5, ground := Ground.guard }], guard := (some (5, true)) } : Oper)) (v := ?_) rfl (by kernel_rfl) (by kernel_rfl) (by kernel_rfl) (fun _ _ _ h => h) (Or.inl ⟨by rfl, ?_⟩) hHeld ?_
  rotate_left
  · intro w_ hSw; (try dsimp only at hSw); go_simp; try (with_reducible rfl)
  try simp only [Act.put, List.setIfInBounds_toArray, List.set_cons_zero, List.set_cons_succ]
  refine wpAnyH_take (i := 10) (oi := ({ dst := (some 15), op := (Op.move (Operand.tmp 1)), type := 27, pos := "kit.go:34", after := #[{ on := 5, ground := Ground.guard }], guard := (some (5, true)) } : Oper)) (v := ?_) rfl (by kernel_rfl) (by kernel_rfl) (by kernel_rfl) (fun _ _ _ h => h) (Or.inl ⟨by rfl, ?_⟩) hHeld ?_
  rotate_left
  · intro w_ hSw; (try dsimp only at hSw); go_simp; try (with_reducible rfl)
  try simp only [Act.put, List.setIfInBounds_toArray, List.set_cons_zero, List.set_cons_succ]
  refine wpAnyH_take (i := 12) (oi := ({ dst := (some 17), op := (Op.move (Operand.tmp 1)), type := 27, pos := "kit.go:34", after := #[{ on := 5, ground := Ground.guard }], guard := (some (5, true)) } : Oper)) (v := ?_) rfl (by kernel_rfl) (by kernel_rfl) (by kernel_rfl) (fun _ _ _ h => h) (Or.inl ⟨by rfl, ?_⟩) hHeld ?_
  rotate_left
  · intro w_ hSw; (try dsimp only at hSw); go_simp; try (with_reducible rfl)
  try simp only [Act.put, List.setIfInBounds_toArray, List.set_cons_zero, List.set_cons_succ]
  refine wpAnyH_take (i := 13) (oi := ({ dst := (some 18), op := (Op.call { callee := (Callee.builtin Builtin.len), args := #[(Operand.tmp 17)], argTypes := #[27] }), type := 3, pos := "kit.go:34", after := #[{ on := 12, ground := Ground.data }, { on := 5, ground := Ground.guard }], guard := (some (5, true)) } : Oper)) (v := ?_) rfl (by kernel_rfl) (by kernel_rfl) (by kernel_rfl) (fun _ _ _ h => h) (Or.inl ⟨by rfl, ?_⟩) hHeld ?_
  rotate_left
  · intro w_ hSw; (try dsimp only at hSw); go_simp; try (with_reducible rfl)
  try simp only [Act.put, List.setIfInBounds_toArray, List.set_cons_zero, List.set_cons_succ]
  refine wpAnyH_take (i := 14) (oi := ({ dst := (some 19), op := (Op.binOp BinOp.add 3 (Operand.tmp 18) (Operand.const (Value.int IntKind.i64 3)) 3), type := 3, pos := "kit.go:34", after := #[{ on := 13, ground := Ground.data }, { on := 5, ground := Ground.guard }], guard := (some (5, true)) } : Oper)) (v := ?_) rfl (by kernel_rfl) (by kernel_rfl) (by kernel_rfl) (fun _ _ _ h => h) (Or.inl ⟨by rfl, ?_⟩) hHeld ?_
  rotate_left
  · intro w_ hSw; (try dsimp only at hSw); go_simp; try (with_reducible rfl)
  try simp only [Act.put, List.setIfInBounds_toArray, List.set_cons_zero, List.set_cons_succ]
  refine wpAnyH_ready (rs := [11]) (by kernel_rfl) (by simp) ?_
  refine AllReadyH.cons (o := ({ dst := (some 16), op := (Op.call { callee := (Callee.value (Operand.func 34)), args := #[(Operand.tmp 15)], argTypes := #[27] }), type := 27, pos := "kit.go:34", after := #[{ on := 10, ground := Ground.data }, { on := 5, ground := Ground.chain }, { on := 5, ground := Ground.guard }], guard := (some (5, true)) } : Oper)) rfl (fun K hK => ?_) AllReadyH.nil
  go_simp
  go_at_call 34; (with_reducible refine (CL.out _ (Kd.C_below HR.out HP.out.below)).mono ?_); rintro e w5 ⟨g2, rfl, hge, hg, hb⟩; have HPn := Aside0.mk (HP.out.newB hb hg hge); clear HP; have HP := HPn; clear HPn; clear hge hg hb
  go_wp2_with fail
  clear hHeld
  refine hK.out _ _ ?_ (fun hHeld => ?_)
  · (try dsimp only); first | done | trivial
  clear hK K
  try simp only [Act.put, List.setIfInBounds_toArray, List.set_cons_zero, List.set_cons_succ]
  refine wpAnyH_take (i := 15) (oi := ({ dst := (some 20), op := (Op.slice 27 (Operand.tmp 16) none (some (Operand.tmp 19)) none), type := 27, pos := "kit.go:34", after := #[{ on := 11, ground := Ground.data }, { on := 14, ground := Ground.data }, { on := 5, ground := Ground.guard }], guard := (some (5, true)) } : Oper)) (v := ?_) rfl (by kernel_rfl) (by kernel_rfl) (by kernel_rfl) (fun _ _ _ h => h) (Or.inl ⟨by rfl, ?_⟩) hHeld ?_
  rotate_left
  · intro w_ hSw; (try dsimp only at hSw); go_simp; try (with_reducible rfl)
  try simp only [Act.put, List.setIfInBounds_toArray, List.set_cons_zero, List.set_cons_succ]
  refine wpAnyH_ready (rs := [16]) (by kernel_rfl) (by simp) ?_
  refine AllReadyH.cons (o := ({ dst := (some 21), op := (Op.call { callee := (Callee.value (Operand.func 23)), args := #[(Operand.tmp 14), (Operand.tmp 20)], argTypes := #[27, 27] }), type := 4, pos := "kit.go:34", after := #[{ on := 9, ground := Ground.data }, { on := 15, ground := Ground.data }, { on := 11, ground := Ground.chain }, { on := 5, ground := Ground.guard }], guard := (some (5, true)) } : Oper)) rfl (fun K hK => ?_) AllReadyH.nil
  go_simp
  go_at_call 23; rw [← HLL.out]; refine (retconkit_SameBytes.calls (some ⟨g, 0, none⟩) _ l (some ⟨g2, 0, none⟩) _ l true _ (C_blkW ((HP.out.below.block g HLT.out).trans HB.out) (by have := HLL.out; have := HM.out; have := HNM.out; omega)) (Nat.le_refl _) (C_blkW (HP.out.blk 0 rfl) (by have := HLL.out; have := HM.out; have := HNM.out; omega)) (Nat.le_refl _) (same_f l)).mono ?_; rintro e w6 ⟨rfl, n6, rfl⟩; have HPn := Aside0.mk (HP.out.drewN n6); clear HP; have HP := HPn; clear HPn
  go_wp2_with fail
  clear hHeld
  refine hK.out _ _ ?_ (fun hHeld => ?_)
  · (try dsimp only); first | done | trivial
  clear hK K
  try simp only [Act.put, List.setIfInBounds_toArray, List.set_cons_zero, List.set_cons_succ]
  refine wpAnyH_take (i := 17) (oi := ({ dst := (some 22), op := (Op.pick (Operand.tmp 10) (Operand.tmp 21) (Operand.const (Value.bool false))), type := 4, pos := "kit.go:34", after := #[{ on := 5, ground := Ground.data }, { on := 16, ground := Ground.data }], guard := none } : Oper)) (v := ?_) rfl (by kernel_rfl) (by kernel_rfl) (by kernel_rfl) (fun _ _ _ h => h) (Or.inl ⟨by rfl, ?_⟩) hHeld ?_
  rotate_left
  · intro w_ hSw; (try dsimp only at hSw); go_simp; try (with_reducible rfl)
  try simp only [Act.put, List.setIfInBounds_toArray, List.set_cons_zero, List.set_cons_succ]
  refine wpAnyH_take (i := 18) (oi := ({ dst := (some 4), op := (Op.assign (Operand.tmp 22)), type := 4, pos := "kit.go:34", after := #[{ on := 17, ground := Ground.data }, { on := 16, ground := Ground.chain }, { on := 0, ground := Ground.phase }, { on := 1, ground := Ground.phase }, { on := 2, ground := Ground.phase }, { on := 3, ground := Ground.phase }, { on := 4, ground := Ground.phase }, { on := 5, ground := Ground.phase }, { on := 6, ground := Ground.phase }, { on := 7, ground := Ground.phase }, { on := 8, ground := Ground.phase }, { on := 9, ground := Ground.phase }, { on := 10, ground := Ground.phase }, { on := 11, ground := Ground.phase }, { on := 12, ground := Ground.phase }, { on := 13, ground := Ground.phase }, { on := 14, ground := Ground.phase }, { on := 15, ground := Ground.phase }, { on := 16, ground := Ground.phase }, { on := 17, ground := Ground.phase }], guard := none } : Oper)) (v := ?_) rfl (by kernel_rfl) (by kernel_rfl) (by kernel_rfl) (fun _ _ _ h => h) (Or.inl ⟨by rfl, ?_⟩) hHeld ?_
  rotate_left
  · intro w_ hSw; (try dsimp only at hSw); go_simp; try (with_reducible rfl)
  try simp only [Act.put, List.setIfInBounds_toArray, List.set_cons_zero, List.set_cons_succ]
  refine wpAnyH_done (by kernel_rfl) ?_ _
  go_wp2
  go_ret
  exact ⟨rfl, HP.out.below⟩
set_option maxHeartbeats 8000000 in
set_option maxRecDepth 100000 in
theorem c_over {w0 w : World} {Rs : List Res} (HP0 : Hp w0 w Rs) (i g : Nat) (l : List Int) (n : Nat) (hi : Rs[i]? = some (.blk g (.cells (u8s l).toArray 5 (0, 0)))) (hn : n ≤ l.length) (hm : l.length ≤ 100000000000000) :
    Calls Try.prog 37 #[.slice (some ⟨g, 0, none⟩) n l.length] w fun e w' => e = .returned (.tuple #[]) ∧ ∃ l' : List Int, l'.length = l.length ∧ Hp w0 w' (Rs.set i (.blk g (.cells (u8s l').toArray 5 (0, 0)))) := by
  have hlt : i < Rs.length := (List.getElem?_eq_some_iff.1 hi).1
  have HP := Aside0.mk (show Hp w0 w (Rs.set i (.blk g (.cells (u8s l).toArray 5 (0, 0)))) from by rw [set_self hi]; exact HP0)
  have HM := Aside0.mk hm
  have HI := Aside0.mk hlt
  have k0 : (n : Int) ≤ (l.length : Int) := by omega
  have k1 : (0 : Int) ≤ (l.length : Int) := by omega
  clear hm hlt hi HP0
  go_enter Try.func37, Try.ntmps37
  go_wp2_with fail
  clear k0
  go_loopg [3] l.length (fun kq v3 w' => ∃ (j : Nat) (x : Int) (l' : List Int), v3 = .int .i64 x ∧ Aside0 (x = (j : Int)) ∧ Aside0 (kq + j = l.length) ∧ Aside0 (l'.length = l.length) ∧ Aside0 (Hp w0 w' (Rs.set i (.blk g (.cells (u8s l').toArray 5 (0, 0))))))
  case atStart => exact ⟨0, 0, l, rfl, ⟨rfl⟩, ⟨rfl⟩, ⟨rfl⟩, HP⟩
  clear HP
  obtain ⟨j, x, l', rfl, HX, HK, HL, HP⟩ := hrel
  have hx := HX.out
  have hm := HM.out
  have hset : ∀ R, (Rs.set i R)[i]? = some R := fun R => by rw [List.getElem?_set]; simp [HI.out]
  by_cases c1 : j < l.length
  · have d1 : decide (x < (l.length : Int)) = true := decide_eq_true (by omega)
    have ex := i64k (x := x + 1) rfl (by omega)
    have p0 : 0 ≤ x := by omega
    have q0 : x < (l.length : Int) := by omega
    have hcw := cellL (HP.out.blk i (hset _)) x p0 (by rw [HL.out]; exact q0)
    have hfw := frozC (HP.out.blk i (hset _)) x.toNat
    obtain ⟨c, hc⟩ : ∃ c, rd l' x = c := ⟨_, rfl⟩
    rw [hc] at hcw
    have HC1 := Aside0.mk c1
    clear hx hm c1 hset hc
    go_wp2
    have hset : ∀ R, (Rs.set i R)[i]? = some R := fun R => by rw [List.getElem?_set]; simp [HI.out]
    have HPn := HP.out.setCell i (hset _) x.toNat (.int .u8 (Go.bits .xor .u8 c 90))
    rw [List.set_set, show (u8s l').toArray.setIfInBounds x.toNat (.int .u8 (Go.bits .xor .u8 c 90)) = (u8s (l'.set x.toNat (Go.bits .xor .u8 c 90))).toArray from setL (k := .u8) _ _ _] at HPn
    go_roundg (gk - 1)
    case measure => have := HK.out; have := HC1.out; omega
    case rel => exact ⟨j + 1, x + 1, _, by simp, ⟨by have := HX.out; omega⟩, ⟨by have := HK.out; have := HC1.out; omega⟩, ⟨by rw [List.length_set]; exact HL.out⟩, ⟨HPn⟩⟩
  · have d1 : decide (x < (l.length : Int)) = false := decide_eq_false (by have := HK.out; omega)
    clear hx hm hset c1
    go_wp2
    exact bodyPost_end (v := .tuple #[]) (by simp [results, Try.results37, go_sem]) rfl ⟨rfl, l', HL.out, HP.out⟩
end Go.Proofs.Ytejfocliopbocaa.Su
namespace Go.Proofs.Ytejfocliopbocaa.Su
open Go.Proofs.Ytejfocliopbocaa.H
open Go.RowKit Go.Proofs.Ytejfocliopbocaa.XD Go.Proofs.YtejfocliopbocaaW.PrintWords Go.Proofs.YtejfocliopbocaaW.PrintLast Go.Proofs.YtejfocliopbocaaW.PrintMore Go.Proofs.YtejfocliopbocaaXe Go.Proofs.YtejfocliopbocaaXs
set_option linter.unusedVariables false
set_option linter.unusedSimpArgs false
attribute [local go_sem ↓] Go.wp_at_zero Go.wp_at_succ
open Go.Proofs.Ytejfocliopbocaa.D hiding c_len c_new c_write
theorem Sp.perm {b : Nat} {w : World} {Rs Rs' : List Res} (hp : Rs.Perm Rs') : ∀ {G : Nat → Prop}, Sp b w Rs G → ∃ G', Sp b w Rs' G' ∧ ∀ k, G' k ↔ G k := by
  induction hp with
  | nil => intro G h; exact ⟨G, h, fun k => Iff.rfl⟩
  | cons x _ ih =>
    intro G h
    cases h with
    | cons h1 h2 h3 h4 =>
      obtain ⟨G', h5, h6⟩ := ih h3
      exact ⟨_, .cons h1 h2 h5 fun k hk hg => h4 k hk ((h6 k).1 hg), fun k => or_congr Iff.rfl (h6 k)⟩
  | swap x y l =>
    intro G h
    cases h with
    | @cons _ _ F G1 h1 h2 h3 h4 =>
      cases h3 with
      | @cons _ _ F2 G2 k1 k2 k3 k4 =>
        refine ⟨_, .cons k1 k2 (.cons h1 h2 k3 fun k hk hg => h4 k hk (.inr hg)) fun k hk hg => ?_, fun k => ?_⟩
        · rcases hg with hg | hg
          · exact h4 k hg (.inl hk)
          · exact k4 k hk hg
        · constructor
          · rintro (h | h | h)
            · exact .inr (.inl h)
            · exact .inl h
            · exact .inr (.inr h)
          · rintro (h | h | h)
            · exact .inr (.inl h)
            · exact .inl h
            · exact .inr (.inr h)
  | trans _ _ ih1 ih2 =>
    intro G h
    obtain ⟨G1, h1, e1⟩ := ih1 h
    obtain ⟨G2, h2, e2⟩ := ih2 h1
    exact ⟨G2, h2, fun k => (e2 k).trans (e1 k)⟩
theorem Hp.perm {w0 w : World} {Rs Rs' : List Res} (h : Hp w0 w Rs) (hp : Rs.Perm Rs') : Hp w0 w Rs' := by
  obtain ⟨G, hs⟩ := h.sp
  obtain ⟨G', h1, _⟩ := Sp.perm hp hs
  exact ⟨h.below, G', h1⟩
/-- the resource in front joins those in place i -/
theorem Hp.join {w0 w : World} {R : Res} {Rs l : List Res} (h : Hp w0 w (R :: Rs)) (i : Nat) (hi : Rs[i]? = some (.all l)) : Hp w0 w (Rs.set i (.all (R :: l))) := by
  have hl : i < Rs.length := (List.getElem?_eq_some_iff.1 hi).1
  have h1 : Hp w0 w (l ++ (R :: Rs.set i .none)) := h.opn (i + 1) (l := l) hi
  have h2 : Hp w0 w ((R :: l) ++ Rs.set i .none) := Hp.perm h1 (by
    rw [List.cons_append]
    exact List.perm_middle)
  have h3 := Hp.cls (R :: l) h2 i (set_get _ hl)
  rwa [List.set_set] at h3
theorem Hp.inAll {w0 w : World} {R : Res} {Rs l : List Res} (h : Hp w0 w Rs) (i : Nat) (hi : Rs[i]? = some (.all l)) (hm : R ∈ l) : ∃ F, R.P w F := by
  obtain ⟨F, ⟨G, h1, _⟩, _⟩ := h.get i hi
  obtain ⟨j, hj, e⟩ := List.getElem_of_mem hm
  obtain ⟨F2, h2, _⟩ := h1.get j (R := R) (by rw [List.getElem?_eq_getElem hj, e])
  exact ⟨F2, h2⟩
structure Pt where
  n : Int
  v : Value
  b : List Int
def KPt : Kd Pt where
  sz := 2
  E := []
  K := fun _ x cs => cs = [.int .i64 x.n, x.v] ∧ x.v.oneCell' = true
  M := fun _ _ _ x cs => cs = [.int .i64 x.n, x.v] ∧ x.v.oneCell' = true
  K_len := fun h => by rw [h.1]; rfl
  K_one := fun h u hu => by
    rw [h.1] at hu
    rcases List.mem_cons.1 hu with rfl | hu
    · rfl
    · rw [List.mem_singleton.1 hu]; exact h.2
  K_below := fun _ h => h
  K_of_M := fun h => h
  M_mono := fun _ h => h
  M_bound := fun h => h
  M_move := fun _ h => h
  M_lower := fun _ h => h
theorem plain_KPt : Plain KPt := fun _ _ _ _ h => h
theorem infoKPt : (Try.prog.info? 77).map (fun i => (i.zero, i.size, i.bytes)) = some (some (.agg #[.int .i64 0, .slice none 0 0]), 2, 32) := by kernel_rfl
structure RS where
  many : Int
  firm : List Pt
  soft : List Pt
  has : Bool
  left : Int
  count : Int
  out : Bool
def refC (R : RS) (v1 v2 : Value) : List Value := [.int .i64 R.many, v1, v2, .bool R.has, .int .i64 R.left, .int .i64 R.count, .bool R.out]
def poolL (base : Nat) (ps : List (Value × List Int)) : List Res := ps.map fun p => .row (Kd.int .u8) 5 base p.1 p.2
def inP (ps : List (Value × List Int)) (p : Pt) : Prop := (p.v, p.b) ∈ ps ∧ p.b.length = 64 ∧ Bytes p.b
def refP (R : RS) (ex : List Pt) (x : Value × Value × List (Value × List Int)) : Prop := ∀ p ∈ R.firm ++ (R.soft ++ ex), inP x.2.2 p
def refL (base g : Nat) (R : RS) (x : Value × Value × List (Value × List Int)) : List Res := [.blk g (.cells (refC R x.1 x.2.1).toArray 56 (0, 0)), .row KPt 77 base x.1 R.firm, .row KPt 77 base x.2.1 R.soft, .all (poolL base x.2.2)]
def rRef (base g : Nat) (R : RS) (ex : List Pt) : Res := .ex fun x => .fact (refP R ex x) (.all (refL base g R x))
/-- the last write of a sector -/
def lastP (l : List Pt) (n : Int) : Option Pt := l.foldl (fun a p => if p.n = n then some p else a) none
theorem lastP_snoc (l : List Pt) (p : Pt) (n : Int) : lastP (l ++ [p]) n = if p.n = n then some p else lastP l n := by
  unfold lastP
  rw [List.foldl_append]
  rfl
theorem lastP_from (n : Int) (p : Pt) : ∀ (l : List Pt) (a : Option Pt), l.foldl (fun a p => if p.n = n then some p else a) a = some p → (p ∈ l ∧ p.n = n) ∨ a = some p
  | [], a, h => .inr h
  | q :: l, a, h => by
    rw [List.foldl_cons] at h
    rcases lastP_from n p l _ h with h1 | h1
    · exact .inl ⟨List.mem_cons_of_mem _ h1.1, h1.2⟩
    · split at h1
      · cases h1; exact .inl ⟨List.mem_cons_self, by assumption⟩
      · exact .inr h1
theorem lastP_mem (l : List Pt) (n : Int) (p : Pt) (h : lastP l n = some p) : p ∈ l ∧ p.n = n := by
  rcases lastP_from n p l none h with h1 | h1
  · exact h1
  · cases h1
def lastV (l : List Pt) (n : Int) : Value := match lastP l n with | some p => p.v | none => .slice none 0 0
def nowB (R : RS) (n : Int) : List Int := match lastP R.soft n with | some p => p.b | none => match lastP R.firm n with | some p => p.b | none => s64'
/-- a row of bytes of the pool is read -/
theorem pool_C {w0 w : World} {Rs : List Res} (h : Hp w0 w Rs) (i : Nat) {ps : List (Value × List Int)} (hi : Rs[i]? = some (.all (poolL w0.heap.size ps))) {p : Pt} (hp : inP ps p) : ∃ A c, p.v = .slice A 64 c ∧ 64 ≤ c ∧ Kd.C (Kd.int .u8) w A 64 p.b := by
  obtain ⟨F, hF⟩ := Hp.inAll h i hi (R := .row (Kd.int .u8) 5 w0.heap.size p.v p.b) (List.mem_map.2 ⟨(p.v, p.b), hp.1, rfl⟩)
  have h1 := hF.1
  obtain ⟨A, c, hv⟩ := Kd.R_slice h1
  rw [hp.2.1] at hv
  rw [hv] at h1
  have h2 := Kd.R_reads' h1
  have h3 := h2.2.2
  rw [hp.2.1] at h3
  exact ⟨A, c, hv, h2.2.1, h3⟩
theorem Hp.openR {w0 w : World} {Rs : List Res} (h : Hp w0 w Rs) (i g : Nat) (R : RS) (ex : List Pt) (hi : Rs[i]? = some (rRef w0.heap.size g R ex)) : ∃ v1 v2 ps, (∀ p ∈ R.firm ++ (R.soft ++ ex), inP ps p) ∧ Hp w0 w (.blk g (.cells (refC R v1 v2).toArray 56 (0, 0)) :: .row KPt 77 w0.heap.size v1 R.firm :: .row KPt 77 w0.heap.size v2 R.soft :: .all (poolL w0.heap.size ps) :: Rs.set i .none) := by
  obtain ⟨⟨v1, v2, ps⟩, hm, HP0⟩ := h.openE i hi
  exact ⟨v1, v2, ps, hm, HP0⟩
theorem Hp.closeR {w0 w : World} {Rs : List Res} (R : RS) (ex : List Pt) {i : Nat} {g : Nat} {v1 v2 : Value} {ps : List (Value × List Int)} (hm : ∀ p ∈ R.firm ++ (R.soft ++ ex), inP ps p) (hl : i < Rs.length)
    (h : Hp w0 w (.blk g (.cells (refC R v1 v2).toArray 56 (0, 0)) :: .row KPt 77 w0.heap.size v1 R.firm :: .row KPt 77 w0.heap.size v2 R.soft :: .all (poolL w0.heap.size ps) :: Rs.set i .none)) : Hp w0 w (Rs.set i (rRef w0.heap.size g R ex)) :=
  Hp.closeE (p := refP R ex) (refL w0.heap.size g R) (v1, v2, ps) hm i hl h
/-- an element's bytes are put -/
theorem R_putP {W : World} {e base g cap n : Nat} {ok : Nat → Prop} {xs : List Pt} (h : KPt.R e W base ok (.slice (some ⟨g, 0, none⟩) n cap) xs) (j : Nat) (p : Pt) (hj : xs[j]? = some p) (v : Value) (b : List Int) (hv : v.oneCell' = true) :
    KPt.R e (W.setCell ⟨g, j * 2 + 1, none⟩ v) base ok (.slice (some ⟨g, 0, none⟩) n cap) (xs.set j ⟨p.n, v, b⟩) ∧ W.grownBy (W.setCell ⟨g, j * 2 + 1, none⟩ v) (some g) := by
  obtain ⟨h0, inner, ho, hr⟩ := h
  have hn : n = xs.length := by
    rcases ho.2 with ⟨h', h''⟩ | ⟨g', cap', cur, h', _⟩
    · simp at h'
    · simp at h'; exact h'.2.1
  subst hn
  obtain ⟨s1, s2⟩ := ho.stored (j * 2 + 1) v
  have hjl : j < xs.length := (List.getElem?_eq_some_iff.1 hj).1
  refine ⟨⟨h0, inner.set (j * 2 + 1) v, by rw [List.length_set]; exact s1, ?_⟩, s2⟩
  have hil : inner.length = xs.length * 2 := hr.1
  refine ⟨by rw [List.length_set, List.length_set]; exact hr.1, fun k q hq => ?_⟩
  rw [List.getElem?_set] at hq
  show _ = [Value.int .i64 q.n, q.v] ∧ _
  by_cases e1 : j = k
  · subst e1
    rw [if_pos rfl, if_pos hjl] at hq
    have hq2 : (⟨p.n, v, b⟩ : Pt) = q := Option.some.inj hq
    subst hq2
    have h1 : (List.take 2 (List.drop (j * 2) inner)) = [.int .i64 p.n, p.v] := (hr.2 j p hj).1
    refine ⟨?_, hv⟩
    show (List.take 2 (List.drop (j * 2) (inner.set (j * 2 + 1) v))) = [.int .i64 p.n, v]
    rw [List.drop_set, if_neg (by omega), show j * 2 + 1 - j * 2 = 1 by omega, List.take_set, h1]
    rfl
  · rw [if_neg e1] at hq
    have h1 := hr.2 k q hq
    refine ⟨?_, h1.2⟩
    rw [← h1.1]
    show (List.take 2 (List.drop (k * 2) (inner.set (j * 2 + 1) v))) = List.take 2 (List.drop (k * 2) inner)
    rcases Nat.lt_or_ge k j with h2 | h2
    · rw [List.drop_set, if_neg (by omega), List.take_set_of_le (by omega)]
    · rw [List.drop_set_of_lt (by omega)]
theorem Hp.putP {w0 w : World} {Rs : List Res} (HP : Hp w0 w Rs) (i : Nat) {e g n cap : Nat} {xs : List Pt} (hi : Rs[i]? = some (.row KPt e w0.heap.size (.slice (some ⟨g, 0, none⟩) n cap) xs)) (j : Nat) (p : Pt) (hj : xs[j]? = some p) (v : Value) (b : List Int) (hv : v.oneCell' = true) :
    Hp w0 (w.setCell ⟨g, j * 2 + 1, none⟩ v) (Rs.set i (.row KPt e w0.heap.size (.slice (some ⟨g, 0, none⟩) n cap) (xs.set j ⟨p.n, v, b⟩))) := by
  obtain ⟨F, hR, _, _, hup⟩ := HP.setR i hi
  have h2 := R_putP hR j p hj v b hv
  have hFg : F g := hR.1 g (by simp [Value.ownBlock])
  refine hup _ _ _ h2.1 (fun k hk => .inl hk) (HP.below.grown h2.2 HP.size fun k hk => by injection hk with hk; rw [← hk]; have := Kd.R_base2 hR; rcases this with h | ⟨q, h, hq⟩ <;> simp [Value.ownBlock] at h; omega) ⟨by have := h2.2.size; exact this, fun k hk hf => h2.2.block k hk fun e => hf (by injection e with e; rw [e]; exact hFg)⟩
/-- cells of an element -/
theorem cellsP {w : World} {bA oA n : Nat} {l : List Pt} (h : KPt.C w (some ⟨bA, oA, none⟩) n l) {j : Nat} {p : Pt} (hj : l[j]? = some p) : w.cell? ⟨bA, oA + j * 2, none⟩ = some (.int .i64 p.n) ∧ w.cell? ⟨bA, oA + j * 2 + 1, none⟩ = some p.v := by
  obtain ⟨cs, ⟨e, _⟩, r⟩ := range_K h hj
  subst e
  exact ⟨r 0 _ rfl, r 1 _ rfl⟩
end Go.Proofs.Ytejfocliopbocaa.Su
namespace Go.Proofs.Ytejfocliopbocaa.Su
open Go.Proofs.Ytejfocliopbocaa.H
open Go.RowKit Go.Proofs.Ytejfocliopbocaa.XD Go.Proofs.YtejfocliopbocaaW.PrintWords Go.Proofs.YtejfocliopbocaaW.PrintLast Go.Proofs.YtejfocliopbocaaW.PrintMore Go.Proofs.YtejfocliopbocaaXe Go.Proofs.YtejfocliopbocaaXs
set_option linter.unusedVariables false
set_option linter.unusedSimpArgs false
attribute [local go_sem ↓] Go.wp_at_zero Go.wp_at_succ
open Go.Proofs.Ytejfocliopbocaa.D hiding c_len c_new c_write
theorem eqnil0 (d : Nat) (w : World) : (Op.equalIn (d + 1) 27 (.slice none 0 0) (.slice none 0 0)).run Try.prog w = .ok true w := by
  simp [Op.equalIn, run_underlying Try.underlying27]
theorem eqsome0 (d : Nat) (w : World) (a : Addr) (n c : Nat) : (Op.equalIn (d + 1) 27 (.slice (some a) n c) (.slice none 0 0)).run Try.prog w = .ok false w := by
  simp [Op.equalIn, run_underlying Try.underlying27]
theorem eqnil (w : World) : (binOp BinOp.eql 27 (.slice none 0 0) (.slice none 0 0)).run Try.prog w = .ok (.bool true) w := by
  have h : (Op.equal 27 (.slice none 0 0) (.slice none 0 0)).run Try.prog w = .ok true w := eqnil0 (Op.maxDepth - 1) w
  show ((Op.equal 27 (.slice none 0 0) (.slice none 0 0)) >>= fun b => pure (Value.bool b) : Sem Value).run Try.prog w = _
  rw [Sem.run_bind, h, Result.andThen_ok, Sem.run_pure]
theorem eqsome (w : World) (a : Addr) (n c : Nat) : (binOp BinOp.eql 27 (.slice (some a) n c) (.slice none 0 0)).run Try.prog w = .ok (.bool false) w := by
  have h : (Op.equal 27 (.slice (some a) n c) (.slice none 0 0)).run Try.prog w = .ok false w := eqsome0 (Op.maxDepth - 1) w a n c
  show ((Op.equal 27 (.slice (some a) n c) (.slice none 0 0)) >>= fun b => pure (Value.bool b) : Sem Value).run Try.prog w = _
  rw [Sem.run_bind, h, Result.andThen_ok, Sem.run_pure]
theorem Hp.addNone {w0 w : World} {Rs : List Res} (h : Hp w0 w Rs) : Hp w0 w (.none :: Rs) :=
  ⟨h.below, let ⟨G, hs⟩ := h.sp; ⟨_, .cons (R := .none) (F := fun _ => False) (fun k hk => hk) (fun k hk => hk.elim) hs (fun k hk => hk.elim)⟩⟩
theorem lastP_take (l : List Pt) (n : Int) (j : Nat) (p : Pt) (hj : l[j]? = some p) : lastP (l.take (j + 1)) n = if p.n = n then some p else lastP (l.take j) n := by
  have hl : j < l.length := (List.getElem?_eq_some_iff.1 hj).1
  rw [List.take_succ_eq_append_getElem hl, lastP_snoc]
  rw [show l[j] = p from by rw [List.getElem?_eq_getElem hl] at hj; exact Option.some.inj hj]
set_option maxHeartbeats 8000000 in
set_option maxRecDepth 100000 in
theorem c_rlast (A : Option Addr) (c : Nat) (l : List Pt) (n : Int) (w : World) (h : KPt.C w A l.length l) (hm : l.length ≤ 1000000) :
    Calls Try.prog 48 #[.slice A l.length c, .int .i64 n] w fun e w' => e = .returned (lastV l n) ∧ w' = w := by
  have HC := Aside0.mk h
  have HM := Aside0.mk hm
  obtain ⟨x0, hx0⟩ : ∃ z, (l.length : Int) - 1 = z := ⟨_, rfl⟩
  have e0 := i64k hx0 (by omega)
  have HX0 := Aside0.mk hx0
  clear h hm hx0
  go_enter Try.func48, Try.ntmps48
  go_wp2_with fail
  clear e0
  go_loopg [5] (l.length + 1) (fun kq v5 w' => ∃ (j : Nat) (x : Int), v5 = .int .i64 x ∧ Aside0 (x = (j : Int) - 1) ∧ Aside0 (kq = j + 1 ∧ j ≤ l.length) ∧ Aside0 (lastP l n = lastP (l.take j) n) ∧ w' = w)
  case atStart => exact ⟨l.length, x0, rfl, ⟨HX0.out.symm⟩, ⟨rfl, Nat.le_refl _⟩, ⟨by rw [List.take_length]⟩, rfl⟩
  clear HX0
  obtain ⟨j, x, rfl, HX, HK, HL, rfl⟩ := hrel
  have hx := HX.out
  have hk := HK.out
  have hm := HM.out
  by_cases c1 : 0 < j
  · have d1 : decide (x ≥ 0) = true := decide_eq_true (by omega)
    have d1' : decide (0 ≤ x) = true := decide_eq_true (by omega)
    obtain ⟨q, rfl⟩ : ∃ q, j = q + 1 := ⟨j - 1, by omega⟩
    obtain ⟨p, hp⟩ : ∃ p, l[q]? = some p := ⟨_, List.getElem?_eq_getElem (by omega)⟩
    obtain ⟨bA, oA, rfl⟩ := C_addrK (by decide) HC.out (by omega)
    obtain ⟨hc0, hc1⟩ := cellsP HC.out hp
    have hxq : x.toNat = q := by omega
    rw [← hxq] at hc0 hc1
    have p0 : 0 ≤ x := by omega
    have q0 : x < (l.length : Int) := by omega
    obtain ⟨y, hy⟩ : ∃ z, x - 1 = z := ⟨_, rfl⟩
    have ey := i64k hy (by omega)
    have HLT := Aside0.mk (lastP_take l n q p hp)
    have HY := Aside0.mk hy
    by_cases c2 : p.n = n
    · have d2 : (p.n == n) = true := beq_iff_eq.2 c2
      have HR := Aside0.mk (show lastV l n = p.v from by unfold lastV; rw [HL.out, HLT.out, if_pos c2])
      clear hx hk hm c1 c2 hp hxq hy
      go_wp2
      go_ret
      exact ⟨by rw [HR.out]; rfl, rfl⟩
    · have d2 : (p.n == n) = false := beq_eq_false_iff_ne.2 c2
      have HL2 := Aside0.mk (show lastP l n = lastP (l.take q) n from by rw [HL.out, HLT.out, if_neg c2])
      have HQ := Aside0.mk (show y = (q : Int) - 1 ∧ q ≤ l.length ∧ gk = q + 2 by omega)
      clear hx hk hm c1 c2 hp hxq hy
      go_wp2
      go_roundg (gk - 1)
      case measure => have := HQ.out; omega
      case rel => exact ⟨q, y, rfl, ⟨HQ.out.1⟩, ⟨by have := HQ.out; omega⟩, HL2, rfl⟩
  · have d1 : decide (x ≥ 0) = false := decide_eq_false (by omega)
    have d1' : decide (0 ≤ x) = false := decide_eq_false (by omega)
    obtain rfl : j = 0 := by omega
    have HR := Aside0.mk (show lastV l n = .slice none 0 0 from by unfold lastV; rw [HL.out]; rfl)
    clear hx hk hm c1
    go_wp2
    go_ret
    exact ⟨by rw [HR.out]; rfl, rfl⟩
set_option maxHeartbeats 8000000 in
set_option maxRecDepth 100000 in
theorem c_rnow {w0 w : World} {Rs : List Res} (HP0 : Hp w0 w Rs) (i g : Nat) (R : RS) (ex : List Pt) (hi : Rs[i]? = some (rRef w0.heap.size g R ex)) (hls : R.soft.length ≤ 1000000) (hlf : R.firm.length ≤ 1000000) (n : Int) :
    Calls Try.prog 45 #[.pointer (some ⟨g, 0, none⟩), .int .i64 n] w fun e w' => ∃ (bA oA c : Nat) (X : Res), e = .returned (.slice (some ⟨bA, oA, none⟩) 64 c) ∧ 64 ≤ c ∧ Hp w0 w' (X :: Rs) ∧ ∀ w'', Hp w0 w'' (X :: Rs) → Kd.C (Kd.int .u8) w'' (some ⟨bA, oA, none⟩) 64 (nowB R n) := by
  have heqn := eqnil
  have heqs := eqsome
  have HRD := Aside0.mk (fun (p : Pt) (hp : p ∈ R.firm ++ (R.soft ++ ex)) => (show ∃ bA oA c, p.v = .slice (some ⟨bA, oA, none⟩) 64 c ∧ 64 ≤ c ∧ ∀ w'', Hp w0 w'' (.none :: Rs) → Kd.C (Kd.int .u8) w'' (some ⟨bA, oA, none⟩) 64 p.b from by
    obtain ⟨v1, v2, ps, hm, HP1⟩ := Hp.openR HP0 i g R ex hi
    obtain ⟨A, c, e1, e2, e3⟩ := pool_C HP1 3 rfl (hm p hp)
    obtain ⟨bA, oA, rfl⟩ := C_addr e3 (by decide) (C_len e3)
    refine ⟨bA, oA, c, e1, e2, fun w'' h => ?_⟩
    obtain ⟨v1', v2', ps', hm', HP1'⟩ := Hp.openR h.drop1 i g R ex hi
    obtain ⟨A', c', k1, k2, k3⟩ := pool_C HP1' 3 rfl (hm' p hp)
    rw [e1] at k1
    cases k1
    exact k3))
  have HH := Aside0.mk HP0
  obtain ⟨v1, v2, ps, hm, HP1⟩ := Hp.openR HP0 i g R ex hi
  have hil : i < Rs.length := (List.getElem?_eq_some_iff.1 hi).1
  have HP := Aside0.mk HP1
  have HM := Aside0.mk hm
  have HI := Aside0.mk hil
  clear HP0 HP1 hm hil
  obtain ⟨A1, c1, rfl⟩ := Kd.R_slice (HP.out.row 1 rfl)
  obtain ⟨A2, c2, rfl⟩ := Kd.R_slice (HP.out.row 2 rfl)
  have hc1 : w.cell? ⟨g, 1, none⟩ = some (.slice A1 R.firm.length c1) := blk_cell (HP.out.blk 0 rfl) 1
  have hc2 : w.cell? ⟨g, 2, none⟩ = some (.slice A2 R.soft.length c2) := blk_cell (HP.out.blk 0 rfl) 2
  have CS := Aside0.mk (c_rlast A2 c2 R.soft n w (Kd.R_reads' (HP.out.row 2 rfl)).2.2 hls)
  have CF := Aside0.mk (c_rlast A1 c1 R.firm n w (Kd.R_reads' (HP.out.row 1 rfl)).2.2 hlf)
  have HNW : Aside0 (nowB R n = match lastP R.soft n with | some p => p.b | none => match lastP R.firm n with | some p => p.b | none => s64') := ⟨rfl⟩
  have HVS : Aside0 (lastV R.soft n = match lastP R.soft n with | some p => p.v | none => .slice none 0 0) := ⟨rfl⟩
  have HVF : Aside0 (lastV R.firm n = match lastP R.firm n with | some p => p.v | none => .slice none 0 0) := ⟨rfl⟩
  obtain ⟨ls, hls_⟩ : ∃ z, lastP R.soft n = z := ⟨_, rfl⟩
  obtain ⟨lf, hlf_⟩ : ∃ z, lastP R.firm n = z := ⟨_, rfl⟩
  rw [hls_] at HNW HVS
  rw [hlf_] at HNW HVF
  obtain ⟨nb, hnb⟩ : ∃ z, nowB R n = z := ⟨_, rfl⟩
  rw [hnb] at HNW ⊢
  rw [HVS.out] at CS
  rw [HVF.out] at CF
  have HMS := Aside0.mk (fun (p : Pt) (h : ls = some p) => (lastP_mem R.soft n p (hls_.trans h)).1)
  have HMF := Aside0.mk (fun (p : Pt) (h : lf = some p) => (lastP_mem R.firm n p (hlf_.trans h)).1)
  clear hls hlf hls_ hlf_ hnb HVS HVF HP HM
  cases ls with
  | some p =>
    obtain ⟨bA, oA, cA, e1, e2, e3⟩ := HRD.out p (List.mem_append_right _ (List.mem_append_left _ (HMS.out p rfl)))
    have CS2 := Aside0.mk (show Calls Try.prog 48 #[.slice A2 R.soft.length c2, .int .i64 n] w fun e w' => e = .returned (.slice (some ⟨bA, oA, none⟩) 64 cA) ∧ w' = w from by rw [← e1]; exact CS.out)
    have HE := Aside0.mk (And.intro e2 e3)
    clear CS CF HMS HMF e1 e2 e3 HRD
    go_enter Try.func45, Try.ntmps45
    go_wp2_with fail
    refine CS2.out.mono ?_; rintro e w_ ⟨rfl, rfl⟩
    go_wp2_with fail
    go_ret
    exact ⟨bA, oA, cA, .none, rfl, HE.out.1, Hp.addNone HH.out, fun w'' h => by rw [HNW.out]; exact HE.out.2 w'' h⟩
  | none =>
    have CS2 := Aside0.mk (show Calls Try.prog 48 #[.slice A2 R.soft.length c2, .int .i64 n] w fun e w' => e = .returned (.slice none 0 0) ∧ w' = w from CS.out)
    clear CS HMS
    cases lf with
    | some p =>
      obtain ⟨bA, oA, cA, e1, e2, e3⟩ := HRD.out p (List.mem_append_left _ (HMF.out p rfl))
      have CF2 := Aside0.mk (show Calls Try.prog 48 #[.slice A1 R.firm.length c1, .int .i64 n] w fun e w' => e = .returned (.slice (some ⟨bA, oA, none⟩) 64 cA) ∧ w' = w from by rw [← e1]; exact CF.out)
      have HE := Aside0.mk (And.intro e2 e3)
      clear CF HMF e1 e2 e3 HRD
      go_enter Try.func45, Try.ntmps45
      go_wp2_with fail
      refine CS2.out.mono ?_; rintro e w_ ⟨rfl, rfl⟩
      go_wp2_with fail
      refine CF2.out.mono ?_; rintro e w_ ⟨rfl, rfl⟩
      go_wp2_with fail
      go_ret
      exact ⟨bA, oA, cA, .none, rfl, HE.out.1, Hp.addNone HH.out, fun w'' h => by rw [HNW.out]; exact HE.out.2 w'' h⟩
    | none =>
      have CF2 := Aside0.mk (show Calls Try.prog 48 #[.slice A1 R.firm.length c1, .int .i64 n] w fun e w' => e = .returned (.slice none 0 0) ∧ w' = w from CF.out)
      have hmk : ∀ w : World, (Instr.makeSlice 27 (.int .i64 64) (.int .i64 64)).run Try.prog w = .ok (.slice (some ⟨w.heap.size, 0, none⟩) 64 64) (w.alloc (.cells (u8s s64').toArray 5)) := fun w => run_make8 64 (by decide) w
      clear CF HMF HRD
      go_enter Try.func45, Try.ntmps45
      go_wp2_with fail
      refine CS2.out.mono ?_; rintro e w_ ⟨rfl, rfl⟩
      go_wp2_with fail
      refine CF2.out.mono ?_; rintro e w_ ⟨rfl, rfl⟩
      go_wp2_with (first | ((with_reducible refine gate_dst (N := 22) rfl ?_); refine ev_make rfl 27 _ _ rfl rfl rfl (hmk _) ?_))
      go_ret
      exact ⟨_, 0, 64, _, rfl, Nat.le_refl _, HH.out.alloc (.cells (u8s s64').toArray 5 (0, 0)), fun w'' h => by rw [HNW.out]; exact C_tk (C_blkW (k := .u8) (l := s64') (h.blk 0 rfl) (by decide)) 64 (by decide) rfl⟩
def RS.readyE (R : RS) (n : Int) : Int := if R.out then 10 else if n < 0 ∨ R.many ≤ n then 5 else 0
set_option maxHeartbeats 8000000 in
set_option maxRecDepth 100000 in
theorem c_rreadE {w0 w : World} {Rs : List Res} (HP0 : Hp w0 w Rs) (i g : Nat) (R : RS) (ex : List Pt) (hi : Rs[i]? = some (rRef w0.heap.size g R ex)) (n : Int) (h0 : R.readyE n ≠ 0) :
    Calls Try.prog 38 #[.pointer (some ⟨g, 0, none⟩), .int .i64 n] w fun e w' => e = .returned (.tuple #[.slice none 0 0, .int .i64 (R.readyE n)]) ∧ w' = w := by
  obtain ⟨v1, v2, ps, hm, HP1⟩ := Hp.openR HP0 i g R ex hi
  have hil : i < Rs.length := (List.getElem?_eq_some_iff.1 hi).1
  have HP := Aside0.mk HP1
  have HM := Aside0.mk hm
  have HI := Aside0.mk hil
  clear HP0 HP1 hm hil
  have hc0 : w.cell? ⟨g, 0, none⟩ = some (.int .i64 R.many) := blk_cell (HP.out.blk 0 rfl) 0
  have hc6 : w.cell? ⟨g, 6, none⟩ = some (.bool R.out) := blk_cell (HP.out.blk 0 rfl) 6
  unfold RS.readyE at h0 ⊢
  clear HP HM HI hi
  obtain ⟨o, ho⟩ : ∃ z, R.out = z := ⟨_, rfl⟩
  obtain ⟨m, hm⟩ : ∃ z, R.many = z := ⟨_, rfl⟩
  rw [ho] at hc6 h0 ⊢
  rw [hm] at hc0 h0 ⊢
  clear ho hm
  cases o with
  | true =>
    clear h0
    go_enter Try.func38, Try.ntmps38
    go_wp2_with fail
    refine bodyPost_ret (results_two_tmps rfl _ _ rfl rfl) rfl ?_
    exact ⟨rfl, rfl⟩
  | false =>
    rw [if_neg (by decide)] at h0 ⊢
    by_cases c1 : n < 0
    · have d1 : decide (n < 0) = true := decide_eq_true c1
      rw [if_pos (.inl c1)]
      clear h0 c1
      go_enter Try.func38, Try.ntmps38
      go_wp2_with fail
      refine bodyPost_ret (results_two_tmps rfl _ _ rfl rfl) rfl ?_
      exact ⟨rfl, rfl⟩
    · have d1 : decide (n < 0) = false := decide_eq_false c1
      by_cases c2 : m ≤ n
      · have d2 : decide (n ≥ m) = true := decide_eq_true c2
        rw [if_pos (.inr c2)]
        clear h0 c1 c2
        go_enter Try.func38, Try.ntmps38
        go_wp2_with fail
        refine bodyPost_ret (results_two_tmps rfl _ _ rfl rfl) rfl ?_
        exact ⟨rfl, rfl⟩
      · exact absurd (if_neg (by omega)) h0
set_option maxHeartbeats 8000000 in
set_option maxRecDepth 100000 in
theorem c_rread {w0 w : World} {Rs : List Res} (HP0 : Hp w0 w Rs) (i g : Nat) (R : RS) (ex : List Pt) (hi : Rs[i]? = some (rRef w0.heap.size g R ex)) (hls : R.soft.length ≤ 1000000) (hlf : R.firm.length ≤ 1000000) (n : Int) (h0 : R.readyE n = 0) :
    Calls Try.prog 38 #[.pointer (some ⟨g, 0, none⟩), .int .i64 n] w fun e w' => ∃ A c, e = .returned (.tuple #[.slice A 64 c, .int .i64 0]) ∧ Hp w0 w' (.row (Kd.int .u8) 5 w0.heap.size (.slice A 64 c) (nowB R n) :: Rs) := by
  have HH := Aside0.mk HP0
  have HI2 := Aside0.mk hi
  have HLL := Aside0.mk (And.intro hls hlf)
  obtain ⟨v1, v2, ps, hm, HP1⟩ := Hp.openR HP0 i g R ex hi
  have hil : i < Rs.length := (List.getElem?_eq_some_iff.1 hi).1
  have HP := Aside0.mk HP1
  have HM := Aside0.mk hm
  have HI := Aside0.mk hil
  clear HP0 HP1 hm hil
  have hc0 : w.cell? ⟨g, 0, none⟩ = some (.int .i64 R.many) := blk_cell (HP.out.blk 0 rfl) 0
  have hc6 : w.cell? ⟨g, 6, none⟩ = some (.bool R.out) := blk_cell (HP.out.blk 0 rfl) 6
  have ho : R.out = false := by
    unfold RS.readyE at h0
    cases h : R.out with
    | true => rw [h] at h0; simp at h0
    | false => rfl
  have hn : ¬ (n < 0 ∨ R.many ≤ n) := by
    unfold RS.readyE at h0
    rw [ho, if_neg (by decide)] at h0
    intro h
    rw [if_pos h] at h0
    omega
  have d1 : decide (n < 0) = false := decide_eq_false (by omega)
  have d2 : decide (n ≥ R.many) = false := decide_eq_false (by omega)
  rw [ho] at hc6
  obtain ⟨m, hm⟩ : ∃ z, R.many = z := ⟨_, rfl⟩
  rw [hm] at hc0 d2
  clear hm ho hn h0 HP HM HI hls hlf hi
  go_enter Try.func38, Try.ntmps38
  go_wp2_with (first | ((with_reducible refine gate_dst (N := 20) rfl ?_); refine ev_run rfl (w1 := w.alloc (.cells #[] 5 (0, 0))) (v := .slice (some ⟨w.heap.size, 0, none⟩) 0 0) ?hr5 ?_; (case hr5 => first | (go_simp; done) | (go_simp; rfl))))
  have HP := Aside0.mk (show Hp w0 (w.alloc (.cells #[] 5 (0, 0))) (.row (Kd.int .u8) 5 w0.heap.size (.slice (some ⟨w.heap.size, 0, none⟩) 0 0) [] :: Rs) from HH.out.lit 5 (d := Kd.int .u8) (xs := []) (inner := []) (reps_ints .u8 _ _ []) (by decide))
  obtain ⟨w1, hw1⟩ : ∃ z, w.alloc (.cells #[] 5 (0, 0)) = z := ⟨_, rfl⟩
  obtain ⟨A0, hA0⟩ : ∃ z : Option Addr, some ⟨w.heap.size, 0, none⟩ = z := ⟨_, rfl⟩
  rw [hw1, hA0] at HP
  rw [hw1, hA0]
  clear hw1 hA0 HH hc0 hc6
  refine (c_rnow HP.out (i + 1) g R ex HI2.out HLL.out.1 HLL.out.2 n).mono ?_
  rintro e w2 ⟨bA, oA, c, X, rfl, hc, hpn, hC⟩
  clear HP
  have HP := Aside0.mk hpn
  have HC := Aside0.mk (hC w2 hpn)
  have HN := Aside0.mk (show (nowB R n).length = 64 from C_len (hC w2 hpn))
  obtain ⟨nb, hnb⟩ : ∃ z, nowB R n = z := ⟨_, rfl⟩
  rw [hnb] at HC HN
  have HNB := Aside0.mk hnb
  clear hpn hC hc hnb
  go_wp2_with (first | ((with_reducible refine gate_dst (N := 24) rfl ?_); refine ev_append (plain_int .u8) HP.out 1 rfl (.tmp 20) (.tmp 23) 27 5 (.int .u8 0) 1 rfl Try.underlying27 info5 rfl (by decide) (by decide) (.slice A0 0 0) [] nb (some ⟨bA, oA, none⟩) 64 c rfl rfl rfl HC.out (by decide) ?_; intro v_n wq hpn; clear HP; have HP := Aside0.mk hpn; clear hpn; obtain ⟨A_n, c_n, rfl⟩ := Kd.R_slice (HP.out.row 1 rfl); rw [List.nil_append] at HP; rw [List.nil_append, HN.out]; rw [HN.out] at HP))
  refine bodyPost_ret (results_two_tmps rfl _ _ rfl rfl) rfl ?_
  exact ⟨A_n, c_n, rfl, by rw [HNB.out]; exact HP.out.drop1⟩
def stepR (R : RS) : RS := if R.has = true ∧ R.left = 0 then { R with out := true } else { R with left := if R.has then wrap64 (R.left - 1) else R.left, count := wrap64 (R.count + 1) }
def stepB (R : RS) : Bool := !(R.has && decide (R.left = 0))
set_option maxHeartbeats 8000000 in
set_option maxRecDepth 100000 in
theorem c_rstep {w0 w : World} {Rs : List Res} (HP0 : Hp w0 w Rs) (i g : Nat) (R : RS) (ex : List Pt) (hi : Rs[i]? = some (rRef w0.heap.size g R ex)) :
    Calls Try.prog 44 #[.pointer (some ⟨g, 0, none⟩)] w fun e w' => e = .returned (.bool (stepB R)) ∧ Hp w0 w' (Rs.set i (rRef w0.heap.size g (stepR R) ex)) := by
  obtain ⟨v1, v2, ps, hm, HP1⟩ := Hp.openR HP0 i g R ex hi
  have hil : i < Rs.length := (List.getElem?_eq_some_iff.1 hi).1
  have HP := Aside0.mk HP1
  have HM := Aside0.mk hm
  have HI := Aside0.mk hil
  clear HP0 HP1 hm hil
  have hc3 : w.cell? ⟨g, 3, none⟩ = some (.bool R.has) := blk_cell (HP.out.blk 0 rfl) 3
  have hc4 : w.cell? ⟨g, 4, none⟩ = some (.int .i64 R.left) := blk_cell (HP.out.blk 0 rfl) 4
  have hc5 : w.cell? ⟨g, 5, none⟩ = some (.int .i64 R.count) := blk_cell (HP.out.blk 0 rfl) 5
  have hc6 : w.cell? ⟨g, 6, none⟩ = some (.bool R.out) := blk_cell (HP.out.blk 0 rfl) 6
  have hf4 := blk_frozen (HP.out.blk 0 rfl) 4
  have hf5 := blk_frozen (HP.out.blk 0 rfl) 5
  have hf6 := blk_frozen (HP.out.blk 0 rfl) 6
  have HS0 := Aside0.mk (show R.has = false → stepR R = { R with count := wrap64 (R.count + 1) } ∧ stepB R = true from fun h => ⟨by unfold stepR; rw [if_neg (by rw [h]; simp), h]; rfl, by unfold stepB; rw [h]; rfl⟩)
  have HS1 := Aside0.mk (show R.has = true → R.left = 0 → stepR R = { R with out := true } ∧ stepB R = false from fun h h2 => ⟨by unfold stepR; rw [if_pos ⟨h, h2⟩], by unfold stepB; rw [h, h2]; rfl⟩)
  have HS2 := Aside0.mk (show R.has = true → R.left ≠ 0 → stepR R = { R with left := wrap64 (R.left - 1), count := wrap64 (R.count + 1) } ∧ stepB R = true from fun h h2 => ⟨by unfold stepR; rw [if_neg (fun h3 => h2 h3.2), if_pos h], by unfold stepB; rw [h, decide_eq_false h2]; rfl⟩)
  have HP5 := Aside0.mk (HP.out.setCell 0 rfl 6 (.bool true))
  have HP4 := Aside0.mk (HP.out.setCell 0 rfl 4 (.int .i64 (wrap64 (R.left - 1))))
  have HP3 := Aside0.mk (HP.out.setCell 0 rfl 5 (.int .i64 (wrap64 (R.count + 1))))
  have HP6 := Aside0.mk (HP4.out.setCell 0 rfl 5 (.int .i64 (wrap64 (R.count + 1))))
  obtain ⟨h, hh⟩ : ∃ z, R.has = z := ⟨_, rfl⟩
  rw [hh] at hc3
  have HHH := Aside0.mk hh
  clear hi hh
  cases h with
  | false =>
    clear HP5 HP4 HP6 hf4 hf6
    go_enter Try.func44, Try.ntmps44
    go_wp2
    go_ret
    exact ⟨by rw [(HS0.out HHH.out).2]; rfl, by rw [(HS0.out HHH.out).1]; exact Hp.closeR { R with count := wrap64 (R.count + 1) } ex HM.out HI.out HP3.out⟩
  | true =>
    by_cases c : R.left = 0
    · have d : (R.left == 0) = true := beq_iff_eq.2 c
      have HSS := Aside0.mk (HS1.out HHH.out c)
      clear HP4 HP3 HP6 hf4 hf5 c HS0 HS1 HS2
      go_enter Try.func44, Try.ntmps44
      go_wp2
      go_ret
      exact ⟨by rw [HSS.out.2]; rfl, by rw [HSS.out.1]; exact Hp.closeR { R with out := true } ex HM.out HI.out HP5.out⟩
    · have d : (R.left == 0) = false := beq_eq_false_iff_ne.2 c
      have HSS := Aside0.mk (HS2.out HHH.out c)
      have hc5b := blk_cell (HP4.out.blk 0 rfl) 5
      have hc5c := hc5b.trans (show _ = some (Value.int .i64 R.count) from rfl)
      have hf5b := blk_frozen (HP4.out.blk 0 rfl) 5
      clear HP5 HP3 hf6 c HS0 HS1 HS2 hc5b
      go_enter Try.func44, Try.ntmps44
      go_wp2
      go_ret
      exact ⟨by rw [HSS.out.2]; rfl, by rw [HSS.out.1]; exact Hp.closeR { R with left := wrap64 (R.left - 1), count := wrap64 (R.count + 1) } ex HM.out HI.out HP6.out⟩
def fuseRE (n : Int) : Int := if n < 0 then 2 else 0
def fuseR (R : RS) (n : Int) : RS := if n < 0 then R else { R with has := true, left := n }
set_option maxHeartbeats 8000000 in
set_option maxRecDepth 100000 in
theorem c_rfuse {w0 w : World} {Rs : List Res} (HP0 : Hp w0 w Rs) (i g : Nat) (R : RS) (ex : List Pt) (hi : Rs[i]? = some (rRef w0.heap.size g R ex)) (n : Int) :
    Calls Try.prog 40 #[.pointer (some ⟨g, 0, none⟩), .int .i64 n] w fun e w' => e = .returned (.int .i64 (fuseRE n)) ∧ Hp w0 w' (Rs.set i (rRef w0.heap.size g (fuseR R n) ex)) := by
  have HH := Aside0.mk HP0
  have HSELF := Aside0.mk (show Rs.set i (rRef w0.heap.size g R ex) = Rs from set_self hi)
  obtain ⟨v1, v2, ps, hm, HP1⟩ := Hp.openR HP0 i g R ex hi
  have hil : i < Rs.length := (List.getElem?_eq_some_iff.1 hi).1
  have HP := Aside0.mk HP1
  have HM := Aside0.mk hm
  have HI := Aside0.mk hil
  clear HP0 HP1 hm hil
  have hc3 : w.cell? ⟨g, 3, none⟩ = some (.bool R.has) := blk_cell (HP.out.blk 0 rfl) 3
  have hf3 := blk_frozen (HP.out.blk 0 rfl) 3
  have HP3 := Aside0.mk (HP.out.setCell 0 rfl 3 (.bool true))
  have hc4 := blk_cell (HP3.out.blk 0 rfl) 4
  have hc4b := hc4.trans (show _ = some (Value.int .i64 R.left) from rfl)
  have hf4 := blk_frozen (HP3.out.blk 0 rfl) 4
  have HP4 := Aside0.mk (HP3.out.setCell 0 rfl 4 (.int .i64 n))
  unfold fuseRE fuseR
  clear hi hc4
  by_cases c : n < 0
  · have d : decide (n < 0) = true := decide_eq_true c
    rw [if_pos c, if_pos c, HSELF.out]
    clear c HP3 HP4 hc3 hc4b hf3 hf4
    go_enter Try.func40, Try.ntmps40
    go_wp2
    go_ret
    exact ⟨rfl, HH.out⟩
  · have d : decide (n < 0) = false := decide_eq_false c
    rw [if_neg c, if_neg c]
    clear c
    go_enter Try.func40, Try.ntmps40
    go_wp2
    go_ret
    exact ⟨rfl, Hp.closeR { R with has := true, left := n } ex HM.out HI.out HP4.out⟩
def newR (n : Int) : RS := ⟨n, [], [], false, 0, 0, false⟩
set_option maxHeartbeats 8000000 in
set_option maxRecDepth 100000 in
theorem c_rnewE (n : Int) (h0 : n < 0 ∨ 65536 < n) (w : World) :
    Calls Try.prog 25 #[.int .i64 n] w fun e w' => e = .returned (.tuple #[.pointer none, .int .i64 5]) ∧ w' = w := by
  by_cases h1 : n < 0
  · have d1 : decide (n < 0) = true := decide_eq_true h1
    clear h0 h1
    go_enter Try.func25, Try.ntmps25
    go_wp2_with fail
    refine bodyPost_ret (results_two_tmps rfl _ _ rfl rfl) rfl ?_
    exact ⟨rfl, rfl⟩
  · have d1 : decide (n < 0) = false := decide_eq_false h1
    have d2 : decide (n > 65536) = true := decide_eq_true (by omega)
    clear h0 h1
    go_enter Try.func25, Try.ntmps25
    go_wp2_with fail
    refine bodyPost_ret (results_two_tmps rfl _ _ rfl rfl) rfl ?_
    exact ⟨rfl, rfl⟩
set_option maxHeartbeats 8000000 in
set_option maxRecDepth 100000 in
theorem c_rnew {w0 w : World} {Rs : List Res} (HP : Hp w0 w Rs) (n : Int) (h0 : 0 ≤ n) (h1 : n ≤ 65536) :
    Calls Try.prog 25 #[.int .i64 n] w fun e w' => ∃ g, e = .returned (.tuple #[.pointer (some ⟨g, 0, none⟩), .int .i64 0]) ∧ Hp w0 w' (rRef w0.heap.size g (newR n) [] :: Rs) := by
  have HPa := Aside0.mk HP
  have d1 : decide (n < 0) = false := decide_eq_false (by omega)
  have d2 : decide (n > 65536) = false := decide_eq_false (by omega)
  clear h0 h1 HP
  go_enter Try.func25, Try.ntmps25
  go_wp2_with fail
  refine bodyPost_ret (results_two_tmps rfl _ _ rfl rfl) rfl ?_
  have h := HPa.out.alloc (.cells (refC (newR n) (.slice none 0 0) (.slice none 0 0)).toArray 56 (0, 0))
  refine ⟨_, rfl, ?_⟩
  have k0 := Hp.addNone h
  have k1 := Hp.as k0 0 (R' := .all (poolL w0.heap.size [])) rfl (fun F hF => ⟨fun _ => False, .nil, fun k => ⟨fun hk => hF k hk, fun hk => hk.elim⟩⟩)
  have k2 := Hp.nilrow k1 KPt 77 (.slice none 0 0) (fun ok => Kd.R_nil KPt 77 _ _ ok)
  have k3 := Hp.nilrow k2 KPt 77 (.slice none 0 0) (fun ok => Kd.R_nil KPt 77 _ _ ok)
  have k4 := Hp.perm k3 (Rs' := [.blk w.heap.size (.cells (refC (newR n) (.slice none 0 0) (.slice none 0 0)).toArray 56 (0, 0)), .row KPt 77 w0.heap.size (.slice none 0 0) [], .row KPt 77 w0.heap.size (.slice none 0 0) [], .all (poolL w0.heap.size [])] ++ Rs) (by
    simp only [List.set_cons_zero, List.cons_append, List.nil_append]
    exact (List.perm_middle (l₁ := [_, _, _]) (l₂ := Rs)))
  exact Hp.closeE0 (p := refP (newR n) []) (refL w0.heap.size _ (newR n)) (.slice none 0 0, .slice none 0 0, []) (fun p hp => by simp [newR] at hp) k4
end Go.Proofs.Ytejfocliopbocaa.Su
namespace Go.Proofs.Ytejfocliopbocaa.Su
open Go.Proofs.Ytejfocliopbocaa.H
open Go.RowKit Go.Proofs.Ytejfocliopbocaa.XD Go.Proofs.YtejfocliopbocaaW.PrintWords Go.Proofs.YtejfocliopbocaaW.PrintLast Go.Proofs.YtejfocliopbocaaW.PrintMore Go.Proofs.YtejfocliopbocaaXe Go.Proofs.YtejfocliopbocaaXs
set_option linter.unusedVariables false
set_option linter.unusedSimpArgs false
attribute [local go_sem ↓] Go.wp_at_zero Go.wp_at_succ
open Go.Proofs.Ytejfocliopbocaa.D hiding c_len c_new c_write
theorem infoB : (Try.prog.info? 4).map (fun i => (i.zero, i.size, i.bytes)) = some (some (.bool false), 1, 1) := by kernel_rfl
def bos (l : List Bool) : List Value := l.map Value.bool
theorem bos_len (l : List Bool) : (bos l).length = l.length := List.length_map ..
theorem cellB {w : World} {g : Nat} {t : TypeId} {l : List Bool} (hg : w.heap[g]? = some (.cells (bos l).toArray t (0, 0))) (j : Int) (h0 : 0 ≤ j) (h1 : j < l.length) : w.cell? ⟨g, j.toNat, none⟩ = some (.bool (l.getD j.toNat false)) := by
  have hl : j.toNat < l.length := by omega
  rw [cell_of_row w g _ _ t (0, 0) hg]
  simp [bos, hl]
theorem setLB (l : List Bool) (i : Nat) (x : Bool) : (bos l).toArray.setIfInBounds i (.bool x) = (bos (l.set i x)).toArray := by simp [bos, List.map_set]
theorem C_blkB {w : World} {g : Nat} {l : List Bool} {t : TypeId} (hg : w.heap[g]? = some (.cells (bos l).toArray t (0, 0))) (hl : l.length ≤ 9223372036854775807) : Kd.C Kd.bool w (some ⟨g, 0, none⟩) l.length l := by
  refine ⟨rfl, by simpa using hl, fun _ => ⟨_, rfl, fun j p hj => ?_⟩⟩
  refine ⟨[.bool p], rfl, rfl, fun i u hu => ?_⟩
  cases i with
  | zero =>
    simp at hu
    subst hu
    rw [show (Kd.bool).sz = 1 from rfl, add_at, cell_of_row w g _ _ _ _ hg]
    simp [bos, hj]
  | succ i => simp at hu
theorem ev_copyB {P : Program} {ops : Array Oper} {rest : List Oper} {o : Oper} {a : Act} {Q : Exit → Act → World → Prop} {w0 W : World} {Rs : List Res} (HP : Hp w0 W Rs) (i : Nat) {g off : Nat} {cur : List Value} {t : TypeId} (hi : Rs[i]? = some (.blk g (.cells cur.toArray t (0, 0)))) (hgd : o.guard = none) (d s : Operand) (dT sT : TypeId)
    (ho : o.op = .call { callee := .builtin .copy, args := #[d, s], argTypes := #[dT, sT] }) (elem : TypeId) (hu : P.underlying dT = some (.slice elem)) (hsz : (P.info? elem).map (·.size) = some 1)
    (dLen dCap : Nat) (hd : a.eval d = .slice (some ⟨g, off, none⟩) dLen dCap) {A : Option Addr} {m c : Nat} (hs : a.eval s = .slice A m c) {l : List Bool} (hml : l.length = m) (hC : Kd.C Kd.bool W A m l) {cs : List Value} (hcs : cs = (l.take dLen).map Value.bool) (hfit : off + cs.length ≤ cur.length) {n : Nat} (hn : cs.length = n)
    (h : ∀ w1, Hp w0 w1 (Rs.set i (.blk g (.cells (splice cur off cs).toArray t (0, 0)))) → wpList P ops Q rest (a.put o.dst (goInt n)) w1) : wpList P ops Q (o :: rest) a W := by
  subst hml hn hcs
  have hg := HP.blk i hi
  by_cases h0 : min l.length dLen = 0
  · have hnil : (l.take dLen).map Value.bool = [] := by
      rw [List.map_eq_nil_iff, ← List.length_eq_zero_iff, List.length_take]; omega
    rw [hnil] at h
    refine wpList_copy_nothing hgd d s dT sT ho elem hu hsz (some ⟨g, off, none⟩) A dLen dCap l.length c hd hs h0 ?_
    refine h W ?_
    have e1 : splice cur off [] = cur := by simp [splice]
    rw [e1, set_self hi]
    exact HP
  · have hpos : 0 < l.length := by omega
    obtain ⟨_, _, h3⟩ := hC
    obtain ⟨ad, rfl, h4⟩ := h3 hpos
    refine wpList_copy_own hgd d s dT sT ho elem hu hsz g off dLen dCap ad l.length c hd hs cur.toArray t hg ((l.take dLen).map Value.bool) (by simp [Nat.min_comm]) (fun j v hv => ?_) (by simpa using hfit) (fun v hv => ?_) ?_
    · rw [List.getElem?_map, Option.map_eq_some_iff] at hv
      obtain ⟨x, hx, rfl⟩ := hv
      rw [List.getElem?_take] at hx
      split at hx
      · obtain ⟨c1, h5, h6, h7⟩ := h4 j x hx
        have h8 : c1 = [.bool x] := h6
        subst h8
        have h9 := h7 0 _ rfl
        have h2 : (Kd.bool).sz = 1 := rfl
        simpa [h2] using h9
      · cases hx
    · obtain ⟨x, _, rfl⟩ := List.mem_map.1 hv
      rfl
    · refine h _ (HP.setB i hi ⟨rfl, rfl, rfl, by rw [setRow_size]; exact Nat.le_refl _, fun q _ hq => setRow_other W g q _ fun e => hq (by rw [e])⟩ ?_)
      have := setRow_heap W g cur.toArray (cur.toArray.toList.take off ++ ((l.take dLen).map Value.bool ++ cur.toArray.toList.drop (off + ((l.take dLen).map Value.bool).length))).toArray t (0, 0) hg
      simpa [splice] using this
set_option maxRecDepth 100000 in
theorem run_makeB (n : Nat) (hn : n ≤ 281474976710656) (w : World) : (Instr.makeSlice 33 (.int .i64 (n : Int)) (.int .i64 (n : Int))).run Try.prog w = .ok (.slice (some ⟨w.heap.size, 0, none⟩) n n) (w.alloc (.cells (bos (List.replicate n false)).toArray 4)) := by
  obtain ⟨i, hi, hz, hs, hb⟩ := info_parts infoB
  have h := run_make (P := Try.prog) w 33 4 i _ Try.underlying33 hi hz .i64 .i64 n n (by omega) (by omega) (by rw [hb]; omega) (by omega)
  rw [Int.toNat_natCast, hs] at h
  rw [h]
  congr 3
  apply Array.ext'
  simp [madeCells, Value.cells, bos, Nat.mod_one, List.map_const']
/-- the marks behind bytes that are lent -/
def lentTB (n : Nat) : List Bool := [decide ((n : Int) % 2 = 0), decide (((n + 1 : Nat) : Int) % 2 = 0), decide (((n + 2 : Nat) : Int) % 2 = 0)]
def lentSB (b : List Bool) (j : Nat) : List Bool := b ++ ((lentTB b.length).take j ++ List.replicate (3 - j) false)
theorem lentSB_len (b : List Bool) (j : Nat) (h : j ≤ 3) : (lentSB b j).length = b.length + 3 := by simp [lentSB, lentTB]; omega
theorem lentSB_step (b : List Bool) (j : Nat) (h : j < 3) : (lentSB b j).set (b.length + j) (decide (((b.length + j : Nat) : Int) % 2 = 0)) = lentSB b (j + 1) := by
  unfold lentSB
  rw [List.set_append_right _ _ (by omega), Nat.add_sub_cancel_left]
  congr 1
  match j, h with
  | 0, _ => rfl
  | 1, _ => rfl
  | 2, _ => rfl
set_option maxHeartbeats 8000000 in
set_option maxRecDepth 100000 in
theorem c_lentB (A : Option Addr) (c : Nat) (b : List Bool) (w : World) (hr : Kd.C Kd.bool w A b.length b) (hc : b.length ≤ c) (hm : b.length ≤ 100000000000000) :
    Calls Try.prog 41 #[.slice A b.length c] w fun e w' => ∃ g, e = .returned (.slice (some ⟨g, 0, none⟩) b.length (b.length + 3)) ∧ w.heap.size ≤ g ∧ w'.heap[g]? = some (.cells (bos (b ++ lentTB b.length)).toArray 4 (0, 0)) ∧ Below w.heap.size w w' := by
  have HR := Aside0.mk hr
  have HM := Aside0.mk hm
  have HP := Aside0.mk (Hp.start w)
  obtain ⟨n3, hn3⟩ : ∃ n3, b.length + 3 = n3 := ⟨_, rfl⟩
  have e1 := i64k (x := (b.length : Int) + 3) (y := (n3 : Int)) (by omega) (by omega)
  have hmk := run_makeB n3 (by omega) w
  have HN3 := Aside0.mk hn3
  obtain ⟨g, hg⟩ : ∃ g, w.heap.size = g := ⟨_, rfl⟩
  obtain ⟨w1, hw1⟩ : ∃ w1, w.alloc (.cells (bos (List.replicate n3 false)).toArray 4 (0, 0)) = w1 := ⟨_, rfl⟩
  have HP1 := Aside0.mk (HP.out.alloc (.cells (bos (List.replicate n3 false)).toArray 4 (0, 0)))
  rw [hw1, hg] at HP1
  rw [hw1, hg] at hmk
  have HG := Aside0.mk hg
  have e2 : splice (bos (List.replicate n3 false)) 0 (bos b) = bos (lentSB b 0) := by
    have := HN3.out
    unfold splice lentSB bos
    rw [List.take_zero, List.nil_append, Nat.zero_add, List.length_map, ← List.map_drop, ← List.map_append, List.drop_replicate, show n3 - b.length = 3 by omega]
    rfl
  have HE2 := Aside0.mk e2
  have HCS := Aside0.mk (show bos b = (b.take n3).map (Value.bool) from by rw [List.take_of_length_le (l := b) (i := n3) (by have := HN3.out; omega)]; rfl)
  have HFT := Aside0.mk (show 0 + (bos b).length ≤ (bos (List.replicate n3 false)).length from by rw [bos_len, bos_len, List.length_replicate]; have := HN3.out; omega)
  clear e2 HP hw1 hg
  have HP := HP1
  clear HP1
  clear hr hm hc hn3
  go_enter Try.func41, Try.ntmps41
  go_wp2_with (first | ((with_reducible refine gate_dst (N := 8) rfl ?_); refine ev_run rfl hmk ?_) | ((with_reducible refine gate_builtin (b := .copy) (xs := #[.tmp 9, .tmp 10]) rfl ?_); refine ev_copyB HP.out 0 rfl rfl (.tmp 9) (.tmp 10) 33 33 rfl 4 Try.underlying33 (by kernel_rfl) n3 n3 rfl rfl (rfl : b.length = b.length) (Kd.C_below HR.out HP.out.below) HCS.out HFT.out (bos_len b) ?_; intro w2 hp2; clear HP; have HP := Aside0.mk hp2; clear hp2))
  rw [HE2.out] at HP
  have HP1 := Aside0.mk (show Hp w w2 [.blk g (.cells (bos (lentSB b 0)).toArray 4 (0, 0))] from HP.out)
  clear HP HE2
  go_loopg [4] 3 (fun kq v4 w' => ∃ (j : Nat) (x : Int), v4 = .int .i64 x ∧ Aside0 (x = ((b.length + j : Nat) : Int)) ∧ Aside0 (kq + j = 3) ∧ Aside0 (Hp w w' [.blk g (.cells (bos (lentSB b j)).toArray 4 (0, 0))]))
  case atStart => exact ⟨0, (b.length : Int), rfl, ⟨rfl⟩, ⟨rfl⟩, HP1⟩
  clear HP1
  obtain ⟨j, x, rfl, HX, HK, HP⟩ := hrel
  have hx := HX.out
  have hn3 := HN3.out
  have hm := HM.out
  by_cases c1 : j < 3
  · have d1 : decide (x < (n3 : Int)) = true := decide_eq_true (by omega)
    have ex := i64k (x := x + 1) rfl (by omega)
    have p0 : 0 ≤ x := by omega
    have q0 : x < (n3 : Int) := by omega
    obtain ⟨y, hy⟩ : ∃ y, x % 2 = y := ⟨_, rfl⟩
    have ey : Int.tmod x 2 = y := by rw [Int.tmod_eq_emod_of_nonneg (by omega)]; exact hy
    obtain ⟨z, hz⟩ : ∃ z, (y == 0) = z := ⟨_, rfl⟩
    have hcw := cellB (HP.out.blk 0 rfl) x p0 (by rw [lentSB_len _ _ (by omega)]; omega)
    have hfw := frozC (HP.out.blk 0 rfl) x.toNat
    have HZ := Aside0.mk (And.intro hy hz)
    have HC1 := Aside0.mk c1
    clear hx hm hn3 hy hz c1
    go_wp2
    have hyn : x.toNat = b.length + j := by have := HX.out; omega
    have hzv : z = decide (((b.length + j : Nat) : Int) % 2 = 0) := by rw [← HZ.out.2, ← HZ.out.1, HX.out]; first | rfl | exact Bool.beq_eq_decide_eq _ _
    have HPn := Aside0.mk (HP.out.setCell 0 rfl (b.length + j) (.bool z))
    rw [show (bos (lentSB b j)).toArray.setIfInBounds (b.length + j) (.bool z) = (bos (lentSB b (j + 1))).toArray from by rw [← lentSB_step b j HC1.out, ← hzv]; exact setLB _ _ _, ← hyn] at HPn
    rw [← HZ.out.2] at HPn
    go_roundg (gk - 1)
    case measure => have := HK.out; have := HC1.out; omega
    case rel => exact ⟨j + 1, x + 1, by simp, ⟨by have := HX.out; omega⟩, ⟨by have := HK.out; have := HC1.out; omega⟩, HPn⟩
  · have d1 : decide (x < (n3 : Int)) = false := decide_eq_false (by omega)
    obtain rfl : j = 3 := by have := HK.out; omega
    have k1 : (b.length : Int) ≤ (n3 : Int) := by omega
    clear hx hm hn3 c1
    rw [show lentSB b 3 = b ++ lentTB b.length from by simp [lentSB, lentTB]] at HP
    go_wp2
    obtain rfl := HN3.out
    go_ret
    exact ⟨g, rfl, by rw [HG.out]; exact Nat.le_refl _, HP.out.blk 0 rfl, HP.out.below⟩
theorem sameB_l0 (l : List Bool) (hm : l.length ≤ 100000000000003) : ∀ (d j : Nat), j + d = l.length → retconkit_SameBools.l0 (d + 1) l l (j : Int) = some true
  | 0, j, h => by rw [retconkit_SameBools.l0, if_neg (by omega)]
  | d + 1, j, h => by
    rw [retconkit_SameBools.l0, if_pos (by omega), if_pos (by omega), if_pos (by omega), if_neg (by simp), show wrap64 ((j : Int) + 1) = ((j + 1 : Nat) : Int) by unfold wrap64; omega]
    exact sameB_l0 l hm d (j + 1) (by omega)
theorem sameB_f (l : List Bool) (hm : l.length ≤ 100000000000003) : retconkit_SameBools.f (l.length + 1) l l = some true := by
  unfold retconkit_SameBools.f
  rw [if_pos rfl]
  exact sameB_l0 l hm l.length 0 (by omega)
theorem lentB_len (b : List Bool) : (b ++ lentTB b.length).length = b.length + 3 := by simp [lentTB]
set_option maxHeartbeats 8000000 in
set_option maxRecDepth 100000 in
theorem c_keptB (g : Nat) (A : Option Addr) (c : Nat) (b : List Bool) (w : World) (hg : w.heap[g]? = some (.cells (bos (b ++ lentTB b.length)).toArray 4 (0, 0))) (hr : Kd.C Kd.bool w A b.length b) (hc : b.length ≤ c) (hm : b.length ≤ 100000000000000) :
    Calls Try.prog 43 #[.slice (some ⟨g, 0, none⟩) b.length (b.length + 3), .slice A b.length c] w fun e w' => e = .returned (.bool true) ∧ Below w.heap.size w w' := by
  have HR := Aside0.mk hr
  have HM := Aside0.mk hm
  have HC := Aside0.mk hc
  have HB := Aside0.mk hg
  have HLT := Aside0.mk (blk_lt hg)
  have HP := Aside0.mk (Hp.start w)
  obtain ⟨n3, hn3⟩ : ∃ n3, b.length + 3 = n3 := ⟨_, rfl⟩
  have e1 := i64k (x := (b.length : Int) + 3) (y := (n3 : Int)) (by omega) (by omega)
  have k0 : (0 : Int) ≤ (n3 : Int) := by omega
  have CL := Aside0.mk (fun w hr => c_lentB A c b w hr hc hm)
  obtain ⟨l, hl⟩ : ∃ l, b ++ lentTB b.length = l := ⟨_, rfl⟩
  have hll := lentB_len b
  rw [hl] at hll HB
  rw [hl, hn3] at CL
  rw [hn3]
  have HLL := Aside0.mk (hll.trans hn3)
  have HNM := Aside0.mk (show n3 ≤ 100000000000003 by omega)
  clear hr hm hc hg hn3 hl hll
  go_enter Try.func43, Try.ntmps43
  go_wp2_with fail
  refine wp_region_held_drew (S := (fun _ => True)) (by kernel_rfl) ?_ (fun hHeld => ?_)
  · have HPn := Aside0.mk (HP.out.drewN 1)
    rw [← World.drew_is_drewN] at HPn
    clear HP
    have HP := HPn
    clear HPn
    first | done | trivial
  have HPn := Aside0.mk (HP.out.drewN 1)
  rw [← World.drew_is_drewN] at HPn
  clear HP
  have HP := HPn
  clear HPn
  refine wpAnyH_take (i := 0) (oi := ({ dst := (some 5), op := (Op.move (Operand.tmp 0)), type := 33, pos := "bools.go:26", after := #[], guard := none } : Oper)) (v := ?_) rfl (by kernel_rfl) (by kernel_rfl) (by kernel_rfl) (fun _ _ _ h => h) (Or.inl ⟨by rfl, ?_⟩) hHeld ?_
  rotate_left
  · intro w_ hSw; (try dsimp only at hSw); go_simp; try (with_reducible rfl)
  try simp only [Act.put, List.setIfInBounds_toArray, List.set_cons_zero, List.set_cons_succ]
  refine wpAnyH_take (i := 1) (oi := ({ dst := (some 6), op := (Op.call { callee := (Callee.builtin Builtin.len), args := #[(Operand.tmp 5)], argTypes := #[33] }), type := 3, pos := "bools.go:26", after := #[{ on := 0, ground := Ground.data }], guard := none } : Oper)) (v := ?_) rfl (by kernel_rfl) (by kernel_rfl) (by kernel_rfl) (fun _ _ _ h => h) (Or.inl ⟨by rfl, ?_⟩) hHeld ?_
  rotate_left
  · intro w_ hSw; (try dsimp only at hSw); go_simp; try (with_reducible rfl)
  try simp only [Act.put, List.setIfInBounds_toArray, List.set_cons_zero, List.set_cons_succ]
  refine wpAnyH_take (i := 2) (oi := ({ dst := (some 7), op := (Op.move (Operand.tmp 1)), type := 33, pos := "bools.go:26", after := #[], guard := none } : Oper)) (v := ?_) rfl (by kernel_rfl) (by kernel_rfl) (by kernel_rfl) (fun _ _ _ h => h) (Or.inl ⟨by rfl, ?_⟩) hHeld ?_
  rotate_left
  · intro w_ hSw; (try dsimp only at hSw); go_simp; try (with_reducible rfl)
  try simp only [Act.put, List.setIfInBounds_toArray, List.set_cons_zero, List.set_cons_succ]
  refine wpAnyH_take (i := 3) (oi := ({ dst := (some 8), op := (Op.call { callee := (Callee.builtin Builtin.len), args := #[(Operand.tmp 7)], argTypes := #[33] }), type := 3, pos := "bools.go:26", after := #[{ on := 2, ground := Ground.data }], guard := none } : Oper)) (v := ?_) rfl (by kernel_rfl) (by kernel_rfl) (by kernel_rfl) (fun _ _ _ h => h) (Or.inl ⟨by rfl, ?_⟩) hHeld ?_
  rotate_left
  · intro w_ hSw; (try dsimp only at hSw); go_simp; try (with_reducible rfl)
  try simp only [Act.put, List.setIfInBounds_toArray, List.set_cons_zero, List.set_cons_succ]
  refine wpAnyH_take (i := 4) (oi := ({ dst := (some 9), op := (Op.binOp BinOp.eql 3 (Operand.tmp 6) (Operand.tmp 8) 3), type := 4, pos := "bools.go:26", after := #[{ on := 1, ground := Ground.data }, { on := 3, ground := Ground.data }], guard := none } : Oper)) (v := ?_) rfl (by kernel_rfl) (by kernel_rfl) (by kernel_rfl) (fun _ _ _ h => h) (Or.inl ⟨by rfl, ?_⟩) hHeld ?_
  rotate_left
  · intro w_ hSw; (try dsimp only at hSw); go_simp; try (with_reducible rfl)
  try simp only [Act.put, List.setIfInBounds_toArray, List.set_cons_zero, List.set_cons_succ]
  refine wpAnyH_take (i := 5) (oi := ({ dst := (some 10), op := (Op.move (Operand.tmp 9)), type := 4, pos := "bools.go:26", after := #[{ on := 4, ground := Ground.data }], guard := none } : Oper)) (v := ?_) rfl (by kernel_rfl) (by kernel_rfl) (by kernel_rfl) (fun _ _ _ h => h) (Or.inl ⟨by rfl, ?_⟩) hHeld ?_
  rotate_left
  · intro w_ hSw; (try dsimp only at hSw); go_simp; try (with_reducible rfl)
  try simp only [Act.put, List.setIfInBounds_toArray, List.set_cons_zero, List.set_cons_succ]
  refine wpAnyH_take (i := 6) (oi := ({ dst := (some 11), op := (Op.move (Operand.tmp 0)), type := 33, pos := "bools.go:26", after := #[{ on := 5, ground := Ground.guard }], guard := (some (5, true)) } : Oper)) (v := ?_) rfl (by kernel_rfl) (by kernel_rfl) (by kernel_rfl) (fun _ _ _ h => h) (Or.inl ⟨by rfl, ?_⟩) hHeld ?_
  rotate_left
  · intro w_ hSw; (try dsimp only at hSw); go_simp; try (with_reducible rfl)
  try simp only [Act.put, List.setIfInBounds_toArray, List.set_cons_zero, List.set_cons_succ]
  refine wpAnyH_take (i := 7) (oi := ({ dst := (some 12), op := (Op.move (Operand.tmp 0)), type := 33, pos := "bools.go:26", after := #[{ on := 5, ground := Ground.guard }], guard := (some (5, true)) } : Oper)) (v := ?_) rfl (by kernel_rfl) (by kernel_rfl) (by kernel_rfl) (fun _ _ _ h => h) (Or.inl ⟨by rfl, ?_⟩) hHeld ?_
  rotate_left
  · intro w_ hSw; (try dsimp only at hSw); go_simp; try (with_reducible rfl)
  try simp only [Act.put, List.setIfInBounds_toArray, List.set_cons_zero, List.set_cons_succ]
  refine wpAnyH_take (i := 8) (oi := ({ dst := (some 13), op := (Op.call { callee := (Callee.builtin Builtin.cap), args := #[(Operand.tmp 12)], argTypes := #[33] }), type := 3, pos := "bools.go:26", after := #[{ on := 7, ground := Ground.data }, { on := 5, ground := Ground.guard }], guard := (some (5, true)) } : Oper)) (v := ?_) rfl (by kernel_rfl) (by kernel_rfl) (by kernel_rfl) (fun _ _ _ h => h) (Or.inl ⟨by rfl, ?_⟩) hHeld ?_
  rotate_left
  · intro w_ hSw; (try dsimp only at hSw); go_simp; try (with_reducible rfl)
  try simp only [Act.put, List.setIfInBounds_toArray, List.set_cons_zero, List.set_cons_succ]
  refine wpAnyH_take (i := 9) (oi := ({ dst := (some 14), op := (Op.slice 33 (Operand.tmp 11) none (some (Operand.tmp 13)) none), type := 33, pos := "bools.go:26", after := #[{ on := 6, ground := Ground.data }, { on := 8, ground := Ground.data }, { on := 5, ground := Ground.guard }], guard := (some (5, true)) } : Oper)) (v := ?_) rfl (by kernel_rfl) (by kernel_rfl) (by kernel_rfl) (fun _ _ _ h => h) (Or.inl ⟨by rfl, ?_⟩) hHeld ?_
  rotate_left
  · intro w_ hSw; (try dsimp only at hSw); go_simp; try (with_reducible rfl)
  try simp only [Act.put, List.setIfInBounds_toArray, List.set_cons_zero, List.set_cons_succ]
  refine wpAnyH_take (i := 10) (oi := ({ dst := (some 15), op := (Op.move (Operand.tmp 1)), type := 33, pos := "bools.go:26", after := #[{ on := 5, ground := Ground.guard }], guard := (some (5, true)) } : Oper)) (v := ?_) rfl (by kernel_rfl) (by kernel_rfl) (by kernel_rfl) (fun _ _ _ h => h) (Or.inl ⟨by rfl, ?_⟩) hHeld ?_
  rotate_left
  · intro w_ hSw; (try dsimp only at hSw); go_simp; try (with_reducible rfl)
  try simp only [Act.put, List.setIfInBounds_toArray, List.set_cons_zero, List.set_cons_succ]
  refine wpAnyH_take (i := 12) (oi := ({ dst := (some 17), op := (Op.move (Operand.tmp 1)), type := 33, pos := "bools.go:26", after := #[{ on := 5, ground := Ground.guard }], guard := (some (5, true)) } : Oper)) (v := ?_) rfl (by kernel_rfl) (by kernel_rfl) (by kernel_rfl) (fun _ _ _ h => h) (Or.inl ⟨by rfl, ?_⟩) hHeld ?_
  rotate_left
  · intro w_ hSw; (try dsimp only at hSw); go_simp; try (with_reducible rfl)
  try simp only [Act.put, List.setIfInBounds_toArray, List.set_cons_zero, List.set_cons_succ]
  refine wpAnyH_take (i := 13) (oi := ({ dst := (some 18), op := (Op.call { callee := (Callee.builtin Builtin.len), args := #[(Operand.tmp 17)], argTypes := #[33] }), type := 3, pos := "bools.go:26", after := #[{ on := 12, ground := Ground.data }, { on := 5, ground := Ground.guard }], guard := (some (5, true)) } : Oper)) (v := ?_) rfl (by kernel_rfl) (by kernel_rfl) (by kernel_rfl) (fun _ _ _ h => h) (Or.inl ⟨by rfl, ?_⟩) hHeld ?_
  rotate_left
  · intro w_ hSw; (try dsimp only at hSw); go_simp; try (with_reducible rfl)
  try simp only [Act.put, List.setIfInBounds_toArray, List.set_cons_zero, List.set_cons_succ]
  refine wpAnyH_take (i := 14) (oi := ({ dst := (some 19), op := (Op.binOp BinOp.add 3 (Operand.tmp 18) (Operand.const (Value.int IntKind.i64 3)) 3), type := 3, pos := "bools.go:26", after := #[{ on := 13, ground := Ground.data }, { on := 5, ground := Ground.guard }], guard := (some (5, true)) } : Oper)) (v := ?_) rfl (by kernel_rfl) (by kernel_rfl) (by kernel_rfl) (fun _ _ _ h => h) (Or.inl ⟨by rfl, ?_⟩) hHeld ?_
  rotate_left
  · intro w_ hSw; (try dsimp only at hSw); go_simp; try (with_reducible rfl)
  try simp only [Act.put, List.setIfInBounds_toArray, List.set_cons_zero, List.set_cons_succ]
  refine wpAnyH_ready (rs := [11]) (by kernel_rfl) (by simp) ?_
  refine AllReadyH.cons (o := ({ dst := (some 16), op := (Op.call { callee := (Callee.value (Operand.func 41)), args := #[(Operand.tmp 15)], argTypes := #[33] }), type := 33, pos := "bools.go:26", after := #[{ on := 10, ground := Ground.data }, { on := 5, ground := Ground.chain }, { on := 5, ground := Ground.guard }], guard := (some (5, true)) } : Oper)) rfl (fun K hK => ?_) AllReadyH.nil
  go_simp
  go_at_call 41; (with_reducible refine (CL.out _ (Kd.C_below HR.out HP.out.below)).mono ?_); rintro e w5 ⟨g2, rfl, hge, hg, hb⟩; have HPn := Aside0.mk (HP.out.newB hb hg hge); clear HP; have HP := HPn; clear HPn; clear hge hg hb
  go_wp2_with fail
  clear hHeld
  refine hK.out _ _ ?_ (fun hHeld => ?_)
  · (try dsimp only); first | done | trivial
  clear hK K
  try simp only [Act.put, List.setIfInBounds_toArray, List.set_cons_zero, List.set_cons_succ]
  refine wpAnyH_take (i := 15) (oi := ({ dst := (some 20), op := (Op.slice 33 (Operand.tmp 16) none (some (Operand.tmp 19)) none), type := 33, pos := "bools.go:26", after := #[{ on := 11, ground := Ground.data }, { on := 14, ground := Ground.data }, { on := 5, ground := Ground.guard }], guard := (some (5, true)) } : Oper)) (v := ?_) rfl (by kernel_rfl) (by kernel_rfl) (by kernel_rfl) (fun _ _ _ h => h) (Or.inl ⟨by rfl, ?_⟩) hHeld ?_
  rotate_left
  · intro w_ hSw; (try dsimp only at hSw); go_simp; try (with_reducible rfl)
  try simp only [Act.put, List.setIfInBounds_toArray, List.set_cons_zero, List.set_cons_succ]
  refine wpAnyH_ready (rs := [16]) (by kernel_rfl) (by simp) ?_
  refine AllReadyH.cons (o := ({ dst := (some 21), op := (Op.call { callee := (Callee.value (Operand.func 47)), args := #[(Operand.tmp 14), (Operand.tmp 20)], argTypes := #[33, 33] }), type := 4, pos := "bools.go:26", after := #[{ on := 9, ground := Ground.data }, { on := 15, ground := Ground.data }, { on := 11, ground := Ground.chain }, { on := 5, ground := Ground.guard }], guard := (some (5, true)) } : Oper)) rfl (fun K hK => ?_) AllReadyH.nil
  go_simp
  go_at_call 47; rw [← HLL.out]; refine (retconkit_SameBools.calls (l.length + 1) (some ⟨g, 0, none⟩) _ l (some ⟨g2, 0, none⟩) _ l true _ (C_blkB ((HP.out.below.block g HLT.out).trans HB.out) (by have := HLL.out; have := HM.out; have := HNM.out; omega)) (Nat.le_refl _) (C_blkB (HP.out.blk 0 rfl) (by have := HLL.out; have := HM.out; have := HNM.out; omega)) (Nat.le_refl _) (sameB_f l (by have := HLL.out; have := HNM.out; omega))).mono ?_; rintro e w6 ⟨rfl, n6, rfl⟩; have HPn := Aside0.mk (HP.out.drewN n6); clear HP; have HP := HPn; clear HPn
  go_wp2_with fail
  clear hHeld
  refine hK.out _ _ ?_ (fun hHeld => ?_)
  · (try dsimp only); first | done | trivial
  clear hK K
  try simp only [Act.put, List.setIfInBounds_toArray, List.set_cons_zero, List.set_cons_succ]
  refine wpAnyH_take (i := 17) (oi := ({ dst := (some 22), op := (Op.pick (Operand.tmp 10) (Operand.tmp 21) (Operand.const (Value.bool false))), type := 4, pos := "bools.go:26", after := #[{ on := 5, ground := Ground.data }, { on := 16, ground := Ground.data }], guard := none } : Oper)) (v := ?_) rfl (by kernel_rfl) (by kernel_rfl) (by kernel_rfl) (fun _ _ _ h => h) (Or.inl ⟨by rfl, ?_⟩) hHeld ?_
  rotate_left
  · intro w_ hSw; (try dsimp only at hSw); go_simp; try (with_reducible rfl)
  try simp only [Act.put, List.setIfInBounds_toArray, List.set_cons_zero, List.set_cons_succ]
  refine wpAnyH_take (i := 18) (oi := ({ dst := (some 4), op := (Op.assign (Operand.tmp 22)), type := 4, pos := "bools.go:26", after := #[{ on := 17, ground := Ground.data }, { on := 16, ground := Ground.chain }, { on := 0, ground := Ground.phase }, { on := 1, ground := Ground.phase }, { on := 2, ground := Ground.phase }, { on := 3, ground := Ground.phase }, { on := 4, ground := Ground.phase }, { on := 5, ground := Ground.phase }, { on := 6, ground := Ground.phase }, { on := 7, ground := Ground.phase }, { on := 8, ground := Ground.phase }, { on := 9, ground := Ground.phase }, { on := 10, ground := Ground.phase }, { on := 11, ground := Ground.phase }, { on := 12, ground := Ground.phase }, { on := 13, ground := Ground.phase }, { on := 14, ground := Ground.phase }, { on := 15, ground := Ground.phase }, { on := 16, ground := Ground.phase }, { on := 17, ground := Ground.phase }], guard := none } : Oper)) (v := ?_) rfl (by kernel_rfl) (by kernel_rfl) (by kernel_rfl) (fun _ _ _ h => h) (Or.inl ⟨by rfl, ?_⟩) hHeld ?_
  rotate_left
  · intro w_ hSw; (try dsimp only at hSw); go_simp; try (with_reducible rfl)
  try simp only [Act.put, List.setIfInBounds_toArray, List.set_cons_zero, List.set_cons_succ]
  refine wpAnyH_done (by kernel_rfl) ?_ _
  go_wp2
  go_ret
  exact ⟨rfl, HP.out.below⟩
end Go.Proofs.Ytejfocliopbocaa.Su
