import Derived.Test.YtejfocliopbocaaQ08
namespace Go.Proofs.Ytejfocliopbocaa.Su
open Go.Proofs.Ytejfocliopbocaa.H
open Go.RowKit Go.Proofs.Ytejfocliopbocaa.XD Go.Proofs.YtejfocliopbocaaW.PrintWords Go.Proofs.YtejfocliopbocaaW.PrintLast Go.Proofs.YtejfocliopbocaaW.PrintMore Go.Proofs.YtejfocliopbocaaXe Go.Proofs.YtejfocliopbocaaXs
set_option linter.unusedVariables false
set_option linter.unusedSimpArgs false
attribute [local go_sem ↓] Go.wp_at_zero Go.wp_at_succ
open Go.Proofs.Ytejfocliopbocaa.D hiding c_len c_new c_write
set_option maxHeartbeats 8000000 in
set_option maxRecDepth 100000 in
theorem c_overT {t : TypeId} {w0 w : World} {Rs : List Res} (HP0 : Hp w0 w Rs) (i g : Nat) (l : List Int) (n : Nat) (hi : Rs[i]? = some (.blk g (.cells (u8s l).toArray t (0, 0)))) (hn : n ≤ l.length) (hm : l.length ≤ 100000000000000) :
    Calls Try.prog 37 #[.slice (some ⟨g, 0, none⟩) n l.length] w fun e w' => e = .returned (.tuple #[]) ∧ ∃ l' : List Int, l'.length = l.length ∧ Hp w0 w' (Rs.set i (.blk g (.cells (u8s l').toArray t (0, 0)))) := by
  have hlt : i < Rs.length := (List.getElem?_eq_some_iff.1 hi).1
  have HP := Aside0.mk (show Hp w0 w (Rs.set i (.blk g (.cells (u8s l).toArray t (0, 0)))) from by rw [set_self hi]; exact HP0)
  have HM := Aside0.mk hm
  have HI := Aside0.mk hlt
  have k0 : (n : Int) ≤ (l.length : Int) := by omega
  have k1 : (0 : Int) ≤ (l.length : Int) := by omega
  clear hm hlt hi HP0
  go_enter Try.func37, Try.ntmps37
  go_wp2_with fail
  clear k0
  go_loopg [3] l.length (fun kq v3 w' => ∃ (j : Nat) (x : Int) (l' : List Int), v3 = .int .i64 x ∧ Aside0 (x = (j : Int)) ∧ Aside0 (kq + j = l.length) ∧ Aside0 (l'.length = l.length) ∧ Aside0 (Hp w0 w' (Rs.set i (.blk g (.cells (u8s l').toArray t (0, 0))))))
  case atStart => exact ⟨0, 0, l, rfl, ⟨rfl⟩, ⟨rfl⟩, ⟨rfl⟩, HP⟩
  clear HP
  obtain ⟨j, x, l', rfl, HX, HK, HL, HP⟩ := hrel
  have hx := HX.out
  have hm := HM.out
  have hset : ∀ R, (Rs.set i R)[i]? = some R := fun R => by rw [List.getElem?_set]; simp [HI.out]
  by_cases c1 : j < l.length
  · have d1 : decide (x < (l.length : Int)) = true := decide_eq_true (by omega)
    have ex := i64k (x := x + 1) rfl (by omega)
    have p0 : 0 ≤ x := by omega
    have q0 : x < (l.length : Int) := by omega
    have hcw := cellL (HP.out.blk i (hset _)) x p0 (by rw [HL.out]; exact q0)
    have hfw := frozC (HP.out.blk i (hset _)) x.toNat
    obtain ⟨c, hc⟩ : ∃ c, rd l' x = c := ⟨_, rfl⟩
    rw [hc] at hcw
    have HC1 := Aside0.mk c1
    clear hx hm c1 hset hc
    go_wp2
    have hset : ∀ R, (Rs.set i R)[i]? = some R := fun R => by rw [List.getElem?_set]; simp [HI.out]
    have HPn := HP.out.setCell i (hset _) x.toNat (.int .u8 (Go.bits .xor .u8 c 90))
    rw [List.set_set, show (u8s l').toArray.setIfInBounds x.toNat (.int .u8 (Go.bits .xor .u8 c 90)) = (u8s (l'.set x.toNat (Go.bits .xor .u8 c 90))).toArray from setL (k := .u8) _ _ _] at HPn
    go_roundg (gk - 1)
    case measure => have := HK.out; have := HC1.out; omega
    case rel => exact ⟨j + 1, x + 1, _, by simp, ⟨by have := HX.out; omega⟩, ⟨by have := HK.out; have := HC1.out; omega⟩, ⟨by rw [List.length_set]; exact HL.out⟩, ⟨HPn⟩⟩
  · have d1 : decide (x < (l.length : Int)) = false := decide_eq_false (by have := HK.out; omega)
    clear hx hm hset c1
    go_wp2
    exact bodyPost_end (v := .tuple #[]) (by simp [results, Try.results37, go_sem]) rfl ⟨rfl, l', HL.out, HP.out⟩
theorem C_lenB {w : World} {A : Option Addr} {n : Nat} {l : List Bool} (h : Kd.C Kd.bool w A n l) : l.length = n := h.1
theorem C_tkB {w : World} {A : Option Addr} {n : Nat} {l m : List Bool} (h : Kd.C Kd.bool w A n l) (k : Nat) (hk : k ≤ n) (hm : l.take k = m) : Kd.C Kd.bool w A k m := by
  have hl := C_lenB h
  subst hl
  have h1 := Kd.C_take (m := k) h (show k ≤ l.length by omega)
  have e : (l.take k).length = k := by rw [List.length_take]; omega
  subst hm
  first | exact h1 | (rw [e] at h1; exact h1)
set_option maxHeartbeats 8000000 in
set_option maxRecDepth 100000 in
theorem c_over0 (A : Option Addr) (w : World) : Calls Try.prog 37 #[.slice A 0 0] w fun e w' => e = .returned (.tuple #[]) ∧ Below w.heap.size w w' := by
  have HP := Aside0.mk (Hp.start w)
  go_enter Try.func37, Try.ntmps37
  go_wp2_with fail
  go_loopg [3] 1 (fun kq v3 w' => v3 = .int .i64 0 ∧ Aside0 (Hp w w' []))
  case atStart => exact ⟨rfl, HP⟩
  clear HP
  obtain ⟨rfl, HP⟩ := hrel
  go_wp2
  exact bodyPost_end (v := .tuple #[]) (by simp [results, Try.results37, go_sem]) rfl ⟨rfl, HP.out.below⟩
def actPost (w0 : World) (g1 g2 j : Nat) (e : Ending) (w' : World) : Prop := e = .returned (.bool true) ∧ ∃ S' R' ex', Inv S' R' (j + 1) ∧ Hp w0 w' [rRef w0.heap.size g2 R' ex', rDisk w0.heap.size g1 S']
set_option maxHeartbeats 8000000 in
set_option maxRecDepth 100000 in
theorem c_act0 {w0 w : World} (g1 g2 : Nat) (S : DS) (R : RS) (ex : List Pt) (j : Nat) (HP0 : Hp w0 w [rRef w0.heap.size g2 R ex, rDisk w0.heap.size g1 S]) (hI : Inv S R j) (hj : j < 80) (n : Int) (A2 : Option Addr) (c2 : Nat) (b : List Int) (v3 : Value) (hv3 : v3.oneCell' = true) (h2 : Kd.C (Kd.int .u8) w0 A2 b.length b) (l2 : b.length ≤ c2) (hb : b.length ≤ 100) (hB : Bytes b) :
    Calls Try.prog 26 #[.pointer (some ⟨g1, 0, none⟩), .pointer (some ⟨g2, 0, none⟩), .agg #[.int .i64 0, .int .i64 n, .slice A2 b.length c2, v3]] w (actPost w0 g1 g2 j) := by
  have HP := Aside0.mk HP0
  have HI := Aside0.mk hI
  have HJ := Aside0.mk hj
  have HSB := Aside0.mk (show S.l.length ≤ 1000 ∧ R.soft.length ≤ 1000 ∧ R.firm.length ≤ 8000 from ⟨by have := hI.l; omega, by have := hI.soft; have := hI.l; omega, by have := hI.f; omega⟩)
  have H2 := Aside0.mk h2
  have HL := Aside0.mk (And.intro l2 (And.intro hb hB))
  have HV3 := Aside0.mk hv3
  have HWE := Aside0.mk (fun v => inv_write hI hj n b hB v)
  clear h2 l2 hb hB
  clear HP0 hI hj
  go_enter Try.func26, Try.ntmps26
  go_wp2_with (first | ((with_reducible refine gate_dst (N := 5) rfl ?_); refine ev_box rfl 43 (.tmp 2) rfl (#[.int .i64 0, .int .i64 n, .slice A2 b.length c2, v3]) rfl ?_; intro g_x w1 hge hg hb; have HPn := Aside0.mk (HP.out.newB hb hg hge); clear HP; have HP := HPn; clear HPn; clear hge hg hb; have hc0 : w1.cell? ⟨g_x, 0, none⟩ = some (.int .i64 0) := blk_cell (HP.out.blk 0 rfl) 0; have hc1 : w1.cell? ⟨g_x, 1, none⟩ = some (.int .i64 n) := blk_cell (HP.out.blk 0 rfl) 1; have hc2 : w1.cell? ⟨g_x, 2, none⟩ = some (.slice A2 b.length c2) := blk_cell (HP.out.blk 0 rfl) 2; have hc3 : w1.cell? ⟨g_x, 3, none⟩ = some (v3) := blk_cell (HP.out.blk 0 rfl) 3))
  refine (c_lent A2 c2 b _ (Kd.C_below H2.out HP.out.below) HL.out.1 (by have := HL.out.2.1; omega)).mono ?_; rintro e w2 ⟨g_l, rfl, hge, hg, hb⟩
  have HPn := Aside0.mk (HP.out.newB hb hg hge); clear HP; have HP := HPn; clear HPn
  clear hge hg hb hc0 hc1 hc2 hc3
  obtain ⟨q, hq⟩ : ∃ z, writeE S n b = z := ⟨_, rfl⟩
  have dq : (q == q) = true := beq_self_eq_true q
  go_wp2_with fail
  refine held_named (S := (fun w' => w'.cell? ⟨g_x, 1, none⟩ = some (.int .i64 n) ∧ w'.cell? ⟨g_x, 2, none⟩ = some (.slice A2 b.length c2))) (by kernel_rfl) (fun wd0 hwd0 => ?_)
  have HPn := Aside0.mk (HP.out.drewN 1)
  rw [← World.drew_is_drewN, hwd0] at HPn
  clear HP hwd0
  have HP := HPn
  clear HPn
  refine ⟨by (try dsimp only); exact ⟨blk_cell (HP.out.blk 1 rfl) 1, blk_cell (HP.out.blk 1 rfl) 2⟩, fun hHeld => ?_⟩
  refine wpAnyH_take (i := 0) (oi := ({ dst := (some 24), op := (Op.move (Operand.tmp 0)), type := 22, pos := "law.go:33", after := #[], guard := none } : Oper)) (v := ?_) rfl (by kernel_rfl) (by kernel_rfl) (by kernel_rfl) (fun _ _ _ h => h) (Or.inl ⟨by rfl, ?_⟩) hHeld ?_
  rotate_left
  · intro w_ hSw; (try dsimp only at hSw); go_simp; try (with_reducible rfl)
  try simp only [Act.put, List.setIfInBounds_toArray, List.set_cons_zero, List.set_cons_succ]
  refine wpAnyH_take (i := 1) (oi := ({ dst := (some 25), op := (Op.fieldAddr 43 (Operand.tmp 5) 1), type := 0, pos := "law.go:33", after := #[], guard := none } : Oper)) (v := ?_) rfl (by kernel_rfl) (by kernel_rfl) (by kernel_rfl) (fun _ _ _ h => h) (Or.inl ⟨by rfl, ?_⟩) hHeld ?_
  rotate_left
  · intro w_ hSw; (try dsimp only at hSw); go_simp; try (with_reducible rfl)
  try simp only [Act.put, List.setIfInBounds_toArray, List.set_cons_zero, List.set_cons_succ]
  refine wpAnyH_take (i := 2) (oi := ({ dst := (some 26), op := (Op.load 3 (Operand.tmp 25)), type := 3, pos := "law.go:33", after := #[{ on := 1, ground := Ground.data }], guard := none } : Oper)) (v := ?_) rfl (by kernel_rfl) (by kernel_rfl) (by kernel_rfl) (fun _ _ _ h => h) (Or.inl ⟨by rfl, ?_⟩) hHeld ?_
  rotate_left
  · intro w_ hSw; (try dsimp only at hSw); go_simp; try (with_reducible rfl)
  try simp only [Act.put, List.setIfInBounds_toArray, List.set_cons_zero, List.set_cons_succ]
  refine wpAnyH_take (i := 3) (oi := ({ dst := (some 27), op := (Op.move (Operand.tmp 7)), type := 27, pos := "law.go:33", after := #[], guard := none } : Oper)) (v := ?_) rfl (by kernel_rfl) (by kernel_rfl) (by kernel_rfl) (fun _ _ _ h => h) (Or.inl ⟨by rfl, ?_⟩) hHeld ?_
  rotate_left
  · intro w_ hSw; (try dsimp only at hSw); go_simp; try (with_reducible rfl)
  try simp only [Act.put, List.setIfInBounds_toArray, List.set_cons_zero, List.set_cons_succ]
  refine wpAnyH_take (i := 5) (oi := ({ dst := (some 29), op := (Op.move (Operand.tmp 1)), type := 50, pos := "law.go:33", after := #[], guard := none } : Oper)) (v := ?_) rfl (by kernel_rfl) (by kernel_rfl) (by kernel_rfl) (fun _ _ _ h => h) (Or.inl ⟨by rfl, ?_⟩) hHeld ?_
  rotate_left
  · intro w_ hSw; (try dsimp only at hSw); go_simp; try (with_reducible rfl)
  try simp only [Act.put, List.setIfInBounds_toArray, List.set_cons_zero, List.set_cons_succ]
  refine wpAnyH_take (i := 6) (oi := ({ dst := (some 30), op := (Op.fieldAddr 43 (Operand.tmp 5) 1), type := 0, pos := "law.go:33", after := #[], guard := none } : Oper)) (v := ?_) rfl (by kernel_rfl) (by kernel_rfl) (by kernel_rfl) (fun _ _ _ h => h) (Or.inl ⟨by rfl, ?_⟩) hHeld ?_
  rotate_left
  · intro w_ hSw; (try dsimp only at hSw); go_simp; try (with_reducible rfl)
  try simp only [Act.put, List.setIfInBounds_toArray, List.set_cons_zero, List.set_cons_succ]
  refine wpAnyH_take (i := 7) (oi := ({ dst := (some 31), op := (Op.load 3 (Operand.tmp 30)), type := 3, pos := "law.go:33", after := #[{ on := 6, ground := Ground.data }], guard := none } : Oper)) (v := ?_) rfl (by kernel_rfl) (by kernel_rfl) (by kernel_rfl) (fun _ _ _ h => h) (Or.inl ⟨by rfl, ?_⟩) hHeld ?_
  rotate_left
  · intro w_ hSw; (try dsimp only at hSw); go_simp; try (with_reducible rfl)
  try simp only [Act.put, List.setIfInBounds_toArray, List.set_cons_zero, List.set_cons_succ]
  refine wpAnyH_take (i := 8) (oi := ({ dst := (some 32), op := (Op.fieldAddr 43 (Operand.tmp 5) 2), type := 0, pos := "law.go:33", after := #[], guard := none } : Oper)) (v := ?_) rfl (by kernel_rfl) (by kernel_rfl) (by kernel_rfl) (fun _ _ _ h => h) (Or.inl ⟨by rfl, ?_⟩) hHeld ?_
  rotate_left
  · intro w_ hSw; (try dsimp only at hSw); go_simp; try (with_reducible rfl)
  try simp only [Act.put, List.setIfInBounds_toArray, List.set_cons_zero, List.set_cons_succ]
  refine wpAnyH_take (i := 9) (oi := ({ dst := (some 33), op := (Op.load 27 (Operand.tmp 32)), type := 27, pos := "law.go:33", after := #[{ on := 8, ground := Ground.data }], guard := none } : Oper)) (v := ?_) rfl (by kernel_rfl) (by kernel_rfl) (by kernel_rfl) (fun _ _ _ h => h) (Or.inl ⟨by rfl, ?_⟩) hHeld ?_
  rotate_left
  · intro w_ hSw; (try dsimp only at hSw); go_simp; try (with_reducible rfl)
  try simp only [Act.put, List.setIfInBounds_toArray, List.set_cons_zero, List.set_cons_succ]
  refine wpAnyH_ready (rs := [4]) (by kernel_rfl) (by simp) ?_
  refine AllReadyH.cons (o := ({ dst := (some 28), op := (Op.call { callee := (Callee.value (Operand.func 11)), args := #[(Operand.tmp 24), (Operand.tmp 26), (Operand.tmp 27)], argTypes := #[22, 3, 27] }), type := 24, pos := "law.go:33", after := #[{ on := 0, ground := Ground.data }, { on := 2, ground := Ground.data }, { on := 3, ground := Ground.data }], guard := none } : Oper)) rfl (fun K hK => ?_) AllReadyH.nil
  go_simp
  have CC := Aside0.mk (D.c_write HP.out 3 g1 S rfl n (some ⟨g_l, 0, none⟩) (b.length + 3) b (by have := HL.out.2.1; omega) (fun w' Y h => C_tk (C_blkW (k := .u8) (l := b ++ lentT b.length) (h.blk 0 rfl) (by rw [lent_len]; have := HL.out.2.1; omega)) b.length (by rw [lent_len]; omega) (by rw [List.take_left']; rfl)) (by have := HSB.out.1; omega))
  rw [hq] at CC
  refine CC.out.mono ?_; rintro e w3 ⟨rfl, hpn⟩
  clear HP CC
  have HP := Aside0.mk hpn
  clear hpn
  go_wp2_with fail
  clear hHeld
  refine hK.out _ _ ?_ (fun hHeld => ?_)
  · (try dsimp only); exact ⟨blk_cell (HP.out.blk 1 rfl) 1, blk_cell (HP.out.blk 1 rfl) 2⟩
  clear hK K
  try simp only [Act.put, List.setIfInBounds_toArray, List.set_cons_zero, List.set_cons_succ]
  refine wpAnyH_ready (rs := [10]) (by kernel_rfl) (by simp) ?_
  refine AllReadyH.cons (o := ({ dst := (some 34), op := (Op.call { callee := (Callee.value (Operand.func 35)), args := #[(Operand.tmp 29), (Operand.tmp 31), (Operand.tmp 33)], argTypes := #[50, 3, 27] }), type := 24, pos := "law.go:33", after := #[{ on := 5, ground := Ground.data }, { on := 7, ground := Ground.data }, { on := 9, ground := Ground.data }, { on := 4, ground := Ground.chain }], guard := none } : Oper)) rfl (fun K hK => ?_) AllReadyH.nil
  go_simp
  have CC := Aside0.mk (c_rwrite HP.out 2 g2 R ex rfl (by have := HSB.out.2.1; omega) n A2 c2 b (by have := HL.out.2.1; omega) (Rd.below H2.out) HL.out.2.2)
  rw [← (HWE.out (.bool true)).1, hq] at CC
  refine CC.out.mono ?_; rintro e w4 ⟨rfl, v_, hpn⟩
  clear HP CC
  have HP := Aside0.mk hpn
  clear hpn
  go_wp2_with fail
  clear hHeld
  refine hK.out _ _ ?_ (fun hHeld => ?_)
  · (try dsimp only); exact ⟨blk_cell (HP.out.blk 1 rfl) 1, blk_cell (HP.out.blk 1 rfl) 2⟩
  clear hK K
  try simp only [Act.put, List.setIfInBounds_toArray, List.set_cons_zero, List.set_cons_succ]
  refine wpAnyH_take (i := 11) (oi := ({ dst := (some 8), op := (Op.assign (Operand.tmp 28)), type := 24, pos := "law.go:33", after := #[{ on := 4, ground := Ground.data }, { on := 10, ground := Ground.chain }, { on := 0, ground := Ground.phase }, { on := 1, ground := Ground.phase }, { on := 2, ground := Ground.phase }, { on := 3, ground := Ground.phase }, { on := 4, ground := Ground.phase }, { on := 5, ground := (Ground.textOnly Departure.lateStores) }, { on := 6, ground := (Ground.textOnly Departure.lateStores) }, { on := 7, ground := (Ground.textOnly Departure.lateStores) }, { on := 8, ground := (Ground.textOnly Departure.lateStores) }, { on := 9, ground := (Ground.textOnly Departure.lateStores) }, { on := 10, ground := (Ground.textOnly Departure.lateStoresUnsure) }], guard := none } : Oper)) (v := ?_) rfl (by kernel_rfl) (by kernel_rfl) (by kernel_rfl) (fun _ _ _ h => h) (Or.inl ⟨by rfl, ?_⟩) hHeld ?_
  rotate_left
  · intro w_ hSw; (try dsimp only at hSw); go_simp; try (with_reducible rfl)
  try simp only [Act.put, List.setIfInBounds_toArray, List.set_cons_zero, List.set_cons_succ]
  refine wpAnyH_take (i := 12) (oi := ({ dst := (some 9), op := (Op.assign (Operand.tmp 34)), type := 24, pos := "law.go:33", after := #[{ on := 10, ground := Ground.data }, { on := 11, ground := Ground.chain }, { on := 0, ground := Ground.phase }, { on := 1, ground := Ground.phase }, { on := 2, ground := Ground.phase }, { on := 3, ground := Ground.phase }, { on := 4, ground := Ground.phase }, { on := 5, ground := Ground.phase }, { on := 6, ground := Ground.phase }, { on := 7, ground := Ground.phase }, { on := 8, ground := Ground.phase }, { on := 9, ground := Ground.phase }, { on := 10, ground := Ground.phase }, { on := 11, ground := Ground.phase }], guard := none } : Oper)) (v := ?_) rfl (by kernel_rfl) (by kernel_rfl) (by kernel_rfl) (fun _ _ _ h => h) (Or.inl ⟨by rfl, ?_⟩) hHeld ?_
  rotate_left
  · intro w_ hSw; (try dsimp only at hSw); go_simp; try (with_reducible rfl)
  try simp only [Act.put, List.setIfInBounds_toArray, List.set_cons_zero, List.set_cons_succ]
  refine wpAnyH_done (by kernel_rfl) ?_ _
  clear hHeld
  have HIn := Aside0.mk (HWE.out v_).2
  clear hq
  have hc2 : w4.cell? ⟨g_x, 2, none⟩ = some (.slice A2 b.length c2) := blk_cell (HP.out.blk 1 rfl) 2
  go_wp2_with fail
  clear hc2
  have CC := Aside0.mk (c_kept g_l A2 c2 b _ (HP.out.blk 0 rfl) (Kd.C_below H2.out HP.out.below) HL.out.1 (by have := HL.out.2.1; omega))
  refine CC.out.mono ?_; rintro e w5 ⟨rfl, hb⟩
  have HPn := Aside0.mk (HP.out.call hb); clear HP; have HP := HPn; clear HPn
  clear hb CC
  go_wp2_with fail
  have CC := Aside0.mk (c_over HP.out 0 g_l (b ++ lentT b.length) b.length rfl (by rw [lent_len]; omega) (by rw [lent_len]; have := HL.out.2.1; omega))
  rw [lent_len] at CC
  refine CC.out.mono ?_; rintro e w6 ⟨rfl, l', hl', hpn⟩
  clear HP CC
  have HP := Aside0.mk hpn
  clear hpn
  go_wp2_with fail
  go_ret
  exact ⟨rfl, _, _, _, HIn.out, HP.out.drop1.drop1⟩
set_option maxHeartbeats 8000000 in
set_option maxRecDepth 100000 in
theorem c_act1 {w0 w : World} (g1 g2 : Nat) (S : DS) (R : RS) (ex : List Pt) (j : Nat) (HP0 : Hp w0 w [rRef w0.heap.size g2 R ex, rDisk w0.heap.size g1 S]) (hI : Inv S R j) (hj : j < 80) (n : Int) (v2 v3 : Value) (hv2 : v2.oneCell' = true) (hv3 : v3.oneCell' = true) :
    Calls Try.prog 26 #[.pointer (some ⟨g1, 0, none⟩), .pointer (some ⟨g2, 0, none⟩), .agg #[.int .i64 1, .int .i64 n, v2, v3]] w (actPost w0 g1 g2 j) := by
  have HP := Aside0.mk HP0
  have HI := Aside0.mk hI
  have HJ := Aside0.mk hj
  have HSB := Aside0.mk (show S.l.length ≤ 1000 ∧ R.soft.length ≤ 1000 ∧ R.firm.length ≤ 8000 from ⟨by have := hI.l; omega, by have := hI.soft; have := hI.l; omega, by have := hI.f; omega⟩)
  have HV := Aside0.mk (And.intro hv2 hv3)
  have HRD := Aside0.mk (sim_ready hI.sim n)
  have HSC := Aside0.mk (And.intro (sec_ok hI.ok n) (sim_sec hI.sim n))
  clear HP0 hI hj
  go_enter Try.func26, Try.ntmps26
  go_wp2_with (first | ((with_reducible refine gate_dst (N := 5) rfl ?_); refine ev_box rfl 43 (.tmp 2) rfl (#[.int .i64 1, .int .i64 n, v2, v3]) rfl ?_; intro g_x w1 hge hg hb; have HPn := Aside0.mk (HP.out.newB hb hg hge); clear HP; have HP := HPn; clear HPn; clear hge hg hb; have hc0 : w1.cell? ⟨g_x, 0, none⟩ = some (.int .i64 1) := blk_cell (HP.out.blk 0 rfl) 0; have hc1 : w1.cell? ⟨g_x, 1, none⟩ = some (.int .i64 n) := blk_cell (HP.out.blk 0 rfl) 1; have hc2 : w1.cell? ⟨g_x, 2, none⟩ = some (v2) := blk_cell (HP.out.blk 0 rfl) 2; have hc3 : w1.cell? ⟨g_x, 3, none⟩ = some (v3) := blk_cell (HP.out.blk 0 rfl) 3))
  by_cases hr : S.readyE n = 0
  rotate_left
  · obtain ⟨q, hq⟩ : ∃ z, S.readyE n = z := ⟨_, rfl⟩
    have dq : (q == q) = true := beq_self_eq_true q
    have CA := Aside0.mk (c_readE HP.out 2 g1 S rfl n hr)
    have CB := Aside0.mk (c_rreadE HP.out 1 g2 R ex rfl n (by rw [← HRD.out]; exact hr))
    rw [hq] at CA
    rw [← HRD.out, hq] at CB
    clear hq hr
    refine CA.out.mono ?_; rintro e w_ ⟨rfl, rfl⟩
    go_wp2_with fail
    refine CB.out.mono ?_; rintro e w_ ⟨rfl, rfl⟩
    clear CA CB hc0 hc1 hc2 hc3
    go_wp2_with fail
    refine (retconkit_SameBytes.calls none 0 [] none 0 [] true _ (Kd.C_nil _ _) (Nat.le_refl _) (Kd.C_nil _ _) (Nat.le_refl _) (same_f [])).mono ?_; rintro e w_ ⟨rfl, n_, rfl⟩
    have HPn := Aside0.mk (HP.out.drewN n_); clear HP; have HP := HPn; clear HPn
    go_wp2_with fail
    refine (c_over0 none _).mono ?_; rintro e w5 ⟨rfl, hb⟩
    have HPn := Aside0.mk (HP.out.call hb); clear HP; have HP := HPn; clear HPn
    clear hb
    go_wp2_with fail
    go_ret
    exact ⟨rfl, S, R, ex, inv_same HI.out HJ.out, HP.out.drop1⟩
  have CC := Aside0.mk (c_read HP.out 2 g1 S rfl n (by have := HSB.out.1; omega) hr)
  refine CC.out.mono ?_; rintro e w3 ⟨g_r, rfl, -, hpn⟩
  clear HP CC
  have HP := Aside0.mk hpn
  clear hpn
  obtain ⟨l, hl⟩ : ∃ z, sec S n = z := ⟨_, rfl⟩
  have HPn := Aside0.mk (show Hp w0 w3 (.blk g_r (.cells (u8s l).toArray 68 (0, 0)) :: _) from by rw [← hl]; exact HP.out)
  clear HP
  have HP := HPn
  clear HPn
  rw [hl] at HSC
  have hc1 : w3.cell? ⟨g_x, 1, none⟩ = some (.int .i64 n) := blk_cell (HP.out.blk 1 rfl) 1
  clear hl hc0 hc2 hc3
  go_wp2_with fail
  have CC := Aside0.mk (c_rread HP.out 2 g2 R ex rfl (by have := HSB.out.2.1; omega) (by have := HSB.out.2.2; omega) n (by rw [← HRD.out]; exact hr))
  rw [← HSC.out.2] at CC
  refine CC.out.mono ?_; rintro e w4 ⟨A_r, c_r, rfl, hpn⟩
  clear HP CC
  have HP := Aside0.mk hpn
  clear hpn hc1 hr
  go_wp2_with fail
  have CC := Aside0.mk (retconkit_SameBytes.calls (some ⟨g_r, 0, none⟩) 64 l A_r c_r l true w4 (C_blkW (k := .u8) (l := l) (HP.out.blk 1 rfl) (by rw [HSC.out.1.1]; decide)) (by rw [HSC.out.1.1]; decide) (Kd.R_reads' (HP.out.row 0 rfl)).2.2 (by have h := (Kd.R_reads' (HP.out.row 0 rfl)).2.1; rw [HSC.out.1.1]; exact h) (same_f l))
  rw [HSC.out.1.1] at CC
  refine CC.out.mono ?_; rintro e w_ ⟨rfl, n_, rfl⟩
  clear CC
  have HPn := Aside0.mk (HP.out.drewN n_); clear HP; have HP := HPn; clear HPn
  go_wp2_with fail
  have CC := Aside0.mk (c_overT HP.out 1 g_r l 64 rfl (by rw [HSC.out.1.1]; decide) (by rw [HSC.out.1.1]; decide))
  rw [HSC.out.1.1] at CC
  refine CC.out.mono ?_; rintro e w6 ⟨rfl, l', hl', hpn⟩
  clear HP CC
  have HP := Aside0.mk hpn
  clear hpn
  go_wp2_with fail
  go_ret
  exact ⟨rfl, S, R, ex, inv_same HI.out HJ.out, HP.out.drop1.drop1.drop1⟩
set_option maxHeartbeats 8000000 in
set_option maxRecDepth 100000 in
theorem c_act2 {w0 w : World} (g1 g2 : Nat) (S : DS) (R : RS) (ex : List Pt) (j : Nat) (HP0 : Hp w0 w [rRef w0.heap.size g2 R ex, rDisk w0.heap.size g1 S]) (hI : Inv S R j) (hj : j < 80) (n : Int) (v2 v3 : Value) (hv2 : v2.oneCell' = true) (hv3 : v3.oneCell' = true) :
    Calls Try.prog 26 #[.pointer (some ⟨g1, 0, none⟩), .pointer (some ⟨g2, 0, none⟩), .agg #[.int .i64 2, .int .i64 n, v2, v3]] w (actPost w0 g1 g2 j) := by
  have HP := Aside0.mk HP0
  have HI := Aside0.mk hI
  have HJ := Aside0.mk hj
  have HSB := Aside0.mk (show S.l.length ≤ 1000 ∧ R.soft.length ≤ 1000 ∧ R.firm.length ≤ 8000 from ⟨by have := hI.l; omega, by have := hI.soft; have := hI.l; omega, by have := hI.f; omega⟩)
  have HV := Aside0.mk (And.intro hv2 hv3)
  have HFE := Aside0.mk (inv_flush hI hj)
  clear HP0 hI hj
  go_enter Try.func26, Try.ntmps26
  go_wp2_with (first | ((with_reducible refine gate_dst (N := 5) rfl ?_); refine ev_box rfl 43 (.tmp 2) rfl (#[.int .i64 2, .int .i64 n, v2, v3]) rfl ?_; intro g_x w1 hge hg hb; have HPn := Aside0.mk (HP.out.newB hb hg hge); clear HP; have HP := HPn; clear HPn; clear hge hg hb; have hc0 : w1.cell? ⟨g_x, 0, none⟩ = some (.int .i64 2) := blk_cell (HP.out.blk 0 rfl) 0; have hc1 : w1.cell? ⟨g_x, 1, none⟩ = some (.int .i64 n) := blk_cell (HP.out.blk 0 rfl) 1; have hc2 : w1.cell? ⟨g_x, 2, none⟩ = some (v2) := blk_cell (HP.out.blk 0 rfl) 2; have hc3 : w1.cell? ⟨g_x, 3, none⟩ = some (v3) := blk_cell (HP.out.blk 0 rfl) 3))
  clear hc0 hc1 hc2 hc3
  obtain ⟨q, hq⟩ : ∃ z, flushE S = z := ⟨_, rfl⟩
  have dq : (q == q) = true := beq_self_eq_true q
  have CC := Aside0.mk (c_flush HP.out 2 g1 S rfl (by have := HSB.out.1; omega))
  rw [hq] at CC
  refine CC.out.mono ?_; rintro e w3 ⟨rfl, hpn⟩
  clear HP CC
  have HP := Aside0.mk hpn
  clear hpn
  go_wp2_with fail
  have CC := Aside0.mk (c_rflush HP.out 1 g2 R ex rfl (by have := HSB.out.2.1; omega) (by have := HSB.out.2.2; omega))
  rw [← HFE.out.1, hq] at CC
  refine CC.out.mono ?_; rintro e w4 ⟨rfl, hpn⟩
  clear HP CC
  have HP := Aside0.mk hpn
  clear hpn
  clear hq
  go_wp2_with fail
  go_ret
  exact ⟨rfl, _, _, _, HFE.out.2, HP.out.drop1⟩
set_option maxHeartbeats 8000000 in
set_option maxRecDepth 100000 in
theorem c_act3 {w0 w : World} (g1 g2 : Nat) (S : DS) (R : RS) (ex : List Pt) (j : Nat) (HP0 : Hp w0 w [rRef w0.heap.size g2 R ex, rDisk w0.heap.size g1 S]) (hI : Inv S R j) (hj : j < 80) (n : Int) (hn : n ≤ 9223372036854775807) (v2 v3 : Value) (hv2 : v2.oneCell' = true) (hv3 : v3.oneCell' = true) :
    Calls Try.prog 26 #[.pointer (some ⟨g1, 0, none⟩), .pointer (some ⟨g2, 0, none⟩), .agg #[.int .i64 3, .int .i64 n, v2, v3]] w (actPost w0 g1 g2 j) := by
  have HP := Aside0.mk HP0
  have HI := Aside0.mk hI
  have HJ := Aside0.mk hj
  have HSB := Aside0.mk (show S.l.length ≤ 1000 ∧ R.soft.length ≤ 1000 ∧ R.firm.length ≤ 8000 from ⟨by have := hI.l; omega, by have := hI.soft; have := hI.l; omega, by have := hI.f; omega⟩)
  have HV := Aside0.mk (And.intro hv2 hv3)
  have HFE := Aside0.mk (inv_fuse hI hj n hn)
  clear hn
  clear HP0 hI hj
  go_enter Try.func26, Try.ntmps26
  go_wp2_with (first | ((with_reducible refine gate_dst (N := 5) rfl ?_); refine ev_box rfl 43 (.tmp 2) rfl (#[.int .i64 3, .int .i64 n, v2, v3]) rfl ?_; intro g_x w1 hge hg hb; have HPn := Aside0.mk (HP.out.newB hb hg hge); clear HP; have HP := HPn; clear HPn; clear hge hg hb; have hc0 : w1.cell? ⟨g_x, 0, none⟩ = some (.int .i64 3) := blk_cell (HP.out.blk 0 rfl) 0; have hc1 : w1.cell? ⟨g_x, 1, none⟩ = some (.int .i64 n) := blk_cell (HP.out.blk 0 rfl) 1; have hc2 : w1.cell? ⟨g_x, 2, none⟩ = some (v2) := blk_cell (HP.out.blk 0 rfl) 2; have hc3 : w1.cell? ⟨g_x, 3, none⟩ = some (v3) := blk_cell (HP.out.blk 0 rfl) 3))
  clear hc0 hc1 hc2 hc3
  obtain ⟨q, hq⟩ : ∃ z, fuseE n = z := ⟨_, rfl⟩
  have dq : (q == q) = true := beq_self_eq_true q
  refine held_named (S := (fun w' => w'.cell? ⟨g_x, 1, none⟩ = some (.int .i64 n))) (by kernel_rfl) (fun wd0 hwd0 => ?_)
  have HPn := Aside0.mk (HP.out.drewN 1)
  rw [← World.drew_is_drewN, hwd0] at HPn
  clear HP hwd0
  have HP := HPn
  clear HPn
  refine ⟨by (try dsimp only); exact blk_cell (HP.out.blk 0 rfl) 1, fun hHeld => ?_⟩
  refine wpAnyH_take (i := 0) (oi := ({ dst := (some 83), op := (Op.move (Operand.tmp 0)), type := 22, pos := "law.go:46", after := #[], guard := none } : Oper)) (v := ?_) rfl (by kernel_rfl) (by kernel_rfl) (by kernel_rfl) (fun _ _ _ h => h) (Or.inl ⟨by rfl, ?_⟩) hHeld ?_
  rotate_left
  · intro w_ hSw; (try dsimp only at hSw); go_simp; try (with_reducible rfl)
  try simp only [Act.put, List.setIfInBounds_toArray, List.set_cons_zero, List.set_cons_succ]
  refine wpAnyH_take (i := 1) (oi := ({ dst := (some 84), op := (Op.fieldAddr 43 (Operand.tmp 5) 1), type := 0, pos := "law.go:46", after := #[], guard := none } : Oper)) (v := ?_) rfl (by kernel_rfl) (by kernel_rfl) (by kernel_rfl) (fun _ _ _ h => h) (Or.inl ⟨by rfl, ?_⟩) hHeld ?_
  rotate_left
  · intro w_ hSw; (try dsimp only at hSw); go_simp; try (with_reducible rfl)
  try simp only [Act.put, List.setIfInBounds_toArray, List.set_cons_zero, List.set_cons_succ]
  refine wpAnyH_take (i := 2) (oi := ({ dst := (some 85), op := (Op.load 3 (Operand.tmp 84)), type := 3, pos := "law.go:46", after := #[{ on := 1, ground := Ground.data }], guard := none } : Oper)) (v := ?_) rfl (by kernel_rfl) (by kernel_rfl) (by kernel_rfl) (fun _ _ _ h => h) (Or.inl ⟨by rfl, ?_⟩) hHeld ?_
  rotate_left
  · intro w_ hSw; (try dsimp only at hSw); go_simp; try (with_reducible rfl)
  try simp only [Act.put, List.setIfInBounds_toArray, List.set_cons_zero, List.set_cons_succ]
  refine wpAnyH_take (i := 4) (oi := ({ dst := (some 87), op := (Op.move (Operand.tmp 1)), type := 50, pos := "law.go:46", after := #[], guard := none } : Oper)) (v := ?_) rfl (by kernel_rfl) (by kernel_rfl) (by kernel_rfl) (fun _ _ _ h => h) (Or.inl ⟨by rfl, ?_⟩) hHeld ?_
  rotate_left
  · intro w_ hSw; (try dsimp only at hSw); go_simp; try (with_reducible rfl)
  try simp only [Act.put, List.setIfInBounds_toArray, List.set_cons_zero, List.set_cons_succ]
  refine wpAnyH_take (i := 5) (oi := ({ dst := (some 88), op := (Op.fieldAddr 43 (Operand.tmp 5) 1), type := 0, pos := "law.go:46", after := #[], guard := none } : Oper)) (v := ?_) rfl (by kernel_rfl) (by kernel_rfl) (by kernel_rfl) (fun _ _ _ h => h) (Or.inl ⟨by rfl, ?_⟩) hHeld ?_
  rotate_left
  · intro w_ hSw; (try dsimp only at hSw); go_simp; try (with_reducible rfl)
  try simp only [Act.put, List.setIfInBounds_toArray, List.set_cons_zero, List.set_cons_succ]
  refine wpAnyH_take (i := 6) (oi := ({ dst := (some 89), op := (Op.load 3 (Operand.tmp 88)), type := 3, pos := "law.go:46", after := #[{ on := 5, ground := Ground.data }], guard := none } : Oper)) (v := ?_) rfl (by kernel_rfl) (by kernel_rfl) (by kernel_rfl) (fun _ _ _ h => h) (Or.inl ⟨by rfl, ?_⟩) hHeld ?_
  rotate_left
  · intro w_ hSw; (try dsimp only at hSw); go_simp; try (with_reducible rfl)
  try simp only [Act.put, List.setIfInBounds_toArray, List.set_cons_zero, List.set_cons_succ]
  refine wpAnyH_ready (rs := [3]) (by kernel_rfl) (by simp) ?_
  refine AllReadyH.cons (o := ({ dst := (some 86), op := (Op.call { callee := (Callee.value (Operand.func 15)), args := #[(Operand.tmp 83), (Operand.tmp 85)], argTypes := #[22, 3] }), type := 24, pos := "law.go:46", after := #[{ on := 0, ground := Ground.data }, { on := 2, ground := Ground.data }], guard := none } : Oper)) rfl (fun K hK => ?_) AllReadyH.nil
  go_simp
  have CC := Aside0.mk (c_fuseD HP.out 2 g1 S rfl n)
  rw [hq] at CC
  refine CC.out.mono ?_; rintro e w3 ⟨rfl, hpn⟩
  clear HP CC
  have HP := Aside0.mk hpn
  clear hpn
  go_wp2_with fail
  clear hHeld
  refine hK.out _ _ ?_ (fun hHeld => ?_)
  · (try dsimp only); exact blk_cell (HP.out.blk 0 rfl) 1
  clear hK K
  try simp only [Act.put, List.setIfInBounds_toArray, List.set_cons_zero, List.set_cons_succ]
  refine wpAnyH_ready (rs := [7]) (by kernel_rfl) (by simp) ?_
  refine AllReadyH.cons (o := ({ dst := (some 90), op := (Op.call { callee := (Callee.value (Operand.func 40)), args := #[(Operand.tmp 87), (Operand.tmp 89)], argTypes := #[50, 3] }), type := 24, pos := "law.go:46", after := #[{ on := 4, ground := Ground.data }, { on := 6, ground := Ground.data }, { on := 3, ground := Ground.chain }], guard := none } : Oper)) rfl (fun K hK => ?_) AllReadyH.nil
  go_simp
  have CC := Aside0.mk (c_rfuse HP.out 1 g2 R ex rfl n)
  rw [← HFE.out.1, hq] at CC
  refine CC.out.mono ?_; rintro e w4 ⟨rfl, hpn⟩
  clear HP CC
  have HP := Aside0.mk hpn
  clear hpn
  go_wp2_with fail
  clear hHeld
  refine hK.out _ _ ?_ (fun hHeld => ?_)
  · (try dsimp only); exact blk_cell (HP.out.blk 0 rfl) 1
  clear hK K
  try simp only [Act.put, List.setIfInBounds_toArray, List.set_cons_zero, List.set_cons_succ]
  refine wpAnyH_take (i := 8) (oi := ({ dst := (some 91), op := (Op.binOp BinOp.eql 24 (Operand.tmp 86) (Operand.tmp 90) 24), type := 4, pos := "law.go:46", after := #[{ on := 3, ground := Ground.data }, { on := 7, ground := Ground.data }], guard := none } : Oper)) (v := ?_) rfl (by kernel_rfl) (by kernel_rfl) (by kernel_rfl) (fun _ _ _ h => h) (Or.inl ⟨by rfl, ?_⟩) hHeld ?_
  rotate_left
  · intro w_ hSw; (try dsimp only at hSw); go_simp; try (with_reducible rfl)
  try simp only [Act.put, List.setIfInBounds_toArray, List.set_cons_zero, List.set_cons_succ]
  refine wpAnyH_take (i := 9) (oi := ({ dst := (some 6), op := (Op.assign (Operand.tmp 91)), type := 4, pos := "law.go:46", after := #[{ on := 8, ground := Ground.data }, { on := 7, ground := Ground.chain }, { on := 0, ground := Ground.phase }, { on := 1, ground := Ground.phase }, { on := 2, ground := Ground.phase }, { on := 3, ground := Ground.phase }, { on := 4, ground := Ground.phase }, { on := 5, ground := Ground.phase }, { on := 6, ground := Ground.phase }, { on := 7, ground := Ground.phase }, { on := 8, ground := Ground.phase }], guard := none } : Oper)) (v := ?_) rfl (by kernel_rfl) (by kernel_rfl) (by kernel_rfl) (fun _ _ _ h => h) (Or.inl ⟨by rfl, ?_⟩) hHeld ?_
  rotate_left
  · intro w_ hSw; (try dsimp only at hSw); go_simp; try (with_reducible rfl)
  try simp only [Act.put, List.setIfInBounds_toArray, List.set_cons_zero, List.set_cons_succ]
  refine wpAnyH_done (by kernel_rfl) ?_ _
  clear hHeld hq
  go_wp2_with fail
  go_ret
  exact ⟨rfl, _, _, _, HFE.out.2, HP.out.drop1⟩
set_option maxHeartbeats 8000000 in
set_option maxRecDepth 100000 in
theorem c_act4 {w0 w : World} (g1 g2 : Nat) (S : DS) (R : RS) (ex : List Pt) (j : Nat) (HP0 : Hp w0 w [rRef w0.heap.size g2 R ex, rDisk w0.heap.size g1 S]) (hI : Inv S R j) (hj : j < 80) (n : Int) (v2 : Value) (hv2 : v2.oneCell' = true) (A3 : Option Addr) (c3 : Nat) (b : List Bool) (h3 : Kd.C Kd.bool w0 A3 b.length b) (l3 : b.length ≤ c3) (hb : b.length ≤ 100) :
    Calls Try.prog 26 #[.pointer (some ⟨g1, 0, none⟩), .pointer (some ⟨g2, 0, none⟩), .agg #[.int .i64 4, .int .i64 n, v2, .slice A3 b.length c3]] w (actPost w0 g1 g2 j) := by
  have HP := Aside0.mk HP0
  have HI := Aside0.mk hI
  have HJ := Aside0.mk hj
  have HSB := Aside0.mk (show S.l.length ≤ 1000 ∧ R.soft.length ≤ 1000 ∧ R.firm.length ≤ 8000 from ⟨by have := hI.l; omega, by have := hI.soft; have := hI.l; omega, by have := hI.f; omega⟩)
  have H3 := Aside0.mk h3
  have HL := Aside0.mk (And.intro l3 hb)
  have HV2 := Aside0.mk hv2
  clear h3 l3 hb
  clear HP0 hI hj
  go_enter Try.func26, Try.ntmps26
  go_wp2_with (first | ((with_reducible refine gate_dst (N := 5) rfl ?_); refine ev_box rfl 43 (.tmp 2) rfl (#[.int .i64 4, .int .i64 n, v2, .slice A3 b.length c3]) rfl ?_; intro g_x w1 hge hg hb; have HPn := Aside0.mk (HP.out.newB hb hg hge); clear HP; have HP := HPn; clear HPn; clear hge hg hb; have hc0 : w1.cell? ⟨g_x, 0, none⟩ = some (.int .i64 4) := blk_cell (HP.out.blk 0 rfl) 0; have hc1 : w1.cell? ⟨g_x, 1, none⟩ = some (.int .i64 n) := blk_cell (HP.out.blk 0 rfl) 1; have hc2 : w1.cell? ⟨g_x, 2, none⟩ = some (v2) := blk_cell (HP.out.blk 0 rfl) 2; have hc3 : w1.cell? ⟨g_x, 3, none⟩ = some (.slice A3 b.length c3) := blk_cell (HP.out.blk 0 rfl) 3))
  refine (c_lentB A3 c3 b _ (Kd.C_below H3.out HP.out.below) HL.out.1 (by have := HL.out.2; omega)).mono ?_; rintro e w2 ⟨g_l, rfl, hge, hg, hb⟩
  have HPn := Aside0.mk (HP.out.newB hb hg hge); clear HP; have HP := HPn; clear HPn
  clear hge hg hb hc0 hc1 hc2 hc3
  obtain ⟨q, hq⟩ : ∃ z, crashE n = z := ⟨_, rfl⟩
  have dq : (q == q) = true := beq_self_eq_true q
  go_wp2_with fail
  refine held_named (S := (fun w' => w'.cell? ⟨g_x, 1, none⟩ = some (.int .i64 n) ∧ w'.cell? ⟨g_x, 3, none⟩ = some (.slice A3 b.length c3))) (by kernel_rfl) (fun wd0 hwd0 => ?_)
  have HPn := Aside0.mk (HP.out.drewN 1)
  rw [← World.drew_is_drewN, hwd0] at HPn
  clear HP hwd0
  have HP := HPn
  clear HPn
  refine ⟨by (try dsimp only); exact ⟨blk_cell (HP.out.blk 1 rfl) 1, blk_cell (HP.out.blk 1 rfl) 3⟩, fun hHeld => ?_⟩
  refine wpAnyH_take (i := 0) (oi := ({ dst := (some 97), op := (Op.move (Operand.tmp 0)), type := 22, pos := "law.go:49", after := #[], guard := none } : Oper)) (v := ?_) rfl (by kernel_rfl) (by kernel_rfl) (by kernel_rfl) (fun _ _ _ h => h) (Or.inl ⟨by rfl, ?_⟩) hHeld ?_
  rotate_left
  · intro w_ hSw; (try dsimp only at hSw); go_simp; try (with_reducible rfl)
  try simp only [Act.put, List.setIfInBounds_toArray, List.set_cons_zero, List.set_cons_succ]
  refine wpAnyH_take (i := 1) (oi := ({ dst := (some 98), op := (Op.move (Operand.tmp 16)), type := 33, pos := "law.go:49", after := #[], guard := none } : Oper)) (v := ?_) rfl (by kernel_rfl) (by kernel_rfl) (by kernel_rfl) (fun _ _ _ h => h) (Or.inl ⟨by rfl, ?_⟩) hHeld ?_
  rotate_left
  · intro w_ hSw; (try dsimp only at hSw); go_simp; try (with_reducible rfl)
  try simp only [Act.put, List.setIfInBounds_toArray, List.set_cons_zero, List.set_cons_succ]
  refine wpAnyH_take (i := 2) (oi := ({ dst := (some 99), op := (Op.fieldAddr 43 (Operand.tmp 5) 1), type := 0, pos := "law.go:49", after := #[], guard := none } : Oper)) (v := ?_) rfl (by kernel_rfl) (by kernel_rfl) (by kernel_rfl) (fun _ _ _ h => h) (Or.inl ⟨by rfl, ?_⟩) hHeld ?_
  rotate_left
  · intro w_ hSw; (try dsimp only at hSw); go_simp; try (with_reducible rfl)
  try simp only [Act.put, List.setIfInBounds_toArray, List.set_cons_zero, List.set_cons_succ]
  refine wpAnyH_take (i := 3) (oi := ({ dst := (some 100), op := (Op.load 3 (Operand.tmp 99)), type := 3, pos := "law.go:49", after := #[{ on := 2, ground := Ground.data }], guard := none } : Oper)) (v := ?_) rfl (by kernel_rfl) (by kernel_rfl) (by kernel_rfl) (fun _ _ _ h => h) (Or.inl ⟨by rfl, ?_⟩) hHeld ?_
  rotate_left
  · intro w_ hSw; (try dsimp only at hSw); go_simp; try (with_reducible rfl)
  try simp only [Act.put, List.setIfInBounds_toArray, List.set_cons_zero, List.set_cons_succ]
  refine wpAnyH_take (i := 5) (oi := ({ dst := (some 102), op := (Op.move (Operand.tmp 1)), type := 50, pos := "law.go:49", after := #[], guard := none } : Oper)) (v := ?_) rfl (by kernel_rfl) (by kernel_rfl) (by kernel_rfl) (fun _ _ _ h => h) (Or.inl ⟨by rfl, ?_⟩) hHeld ?_
  rotate_left
  · intro w_ hSw; (try dsimp only at hSw); go_simp; try (with_reducible rfl)
  try simp only [Act.put, List.setIfInBounds_toArray, List.set_cons_zero, List.set_cons_succ]
  refine wpAnyH_take (i := 6) (oi := ({ dst := (some 103), op := (Op.fieldAddr 43 (Operand.tmp 5) 3), type := 0, pos := "law.go:49", after := #[], guard := none } : Oper)) (v := ?_) rfl (by kernel_rfl) (by kernel_rfl) (by kernel_rfl) (fun _ _ _ h => h) (Or.inl ⟨by rfl, ?_⟩) hHeld ?_
  rotate_left
  · intro w_ hSw; (try dsimp only at hSw); go_simp; try (with_reducible rfl)
  try simp only [Act.put, List.setIfInBounds_toArray, List.set_cons_zero, List.set_cons_succ]
  refine wpAnyH_take (i := 7) (oi := ({ dst := (some 104), op := (Op.load 33 (Operand.tmp 103)), type := 33, pos := "law.go:49", after := #[{ on := 6, ground := Ground.data }], guard := none } : Oper)) (v := ?_) rfl (by kernel_rfl) (by kernel_rfl) (by kernel_rfl) (fun _ _ _ h => h) (Or.inl ⟨by rfl, ?_⟩) hHeld ?_
  rotate_left
  · intro w_ hSw; (try dsimp only at hSw); go_simp; try (with_reducible rfl)
  try simp only [Act.put, List.setIfInBounds_toArray, List.set_cons_zero, List.set_cons_succ]
  refine wpAnyH_take (i := 8) (oi := ({ dst := (some 105), op := (Op.fieldAddr 43 (Operand.tmp 5) 1), type := 0, pos := "law.go:49", after := #[], guard := none } : Oper)) (v := ?_) rfl (by kernel_rfl) (by kernel_rfl) (by kernel_rfl) (fun _ _ _ h => h) (Or.inl ⟨by rfl, ?_⟩) hHeld ?_
  rotate_left
  · intro w_ hSw; (try dsimp only at hSw); go_simp; try (with_reducible rfl)
  try simp only [Act.put, List.setIfInBounds_toArray, List.set_cons_zero, List.set_cons_succ]
  refine wpAnyH_take (i := 9) (oi := ({ dst := (some 106), op := (Op.load 3 (Operand.tmp 105)), type := 3, pos := "law.go:49", after := #[{ on := 8, ground := Ground.data }], guard := none } : Oper)) (v := ?_) rfl (by kernel_rfl) (by kernel_rfl) (by kernel_rfl) (fun _ _ _ h => h) (Or.inl ⟨by rfl, ?_⟩) hHeld ?_
  rotate_left
  · intro w_ hSw; (try dsimp only at hSw); go_simp; try (with_reducible rfl)
  try simp only [Act.put, List.setIfInBounds_toArray, List.set_cons_zero, List.set_cons_succ]
  refine wpAnyH_ready (rs := [4]) (by kernel_rfl) (by simp) ?_
  refine AllReadyH.cons (o := ({ dst := (some 101), op := (Op.call { callee := (Callee.value (Operand.func 13)), args := #[(Operand.tmp 97), (Operand.tmp 98), (Operand.tmp 100)], argTypes := #[22, 33, 3] }), type := 24, pos := "law.go:49", after := #[{ on := 0, ground := Ground.data }, { on := 1, ground := Ground.data }, { on := 3, ground := Ground.data }], guard := none } : Oper)) rfl (fun K hK => ?_) AllReadyH.nil
  go_simp
  have CC := Aside0.mk (c_crashD HP.out 3 g1 S rfl (some ⟨g_l, 0, none⟩) (b.length + 3) b (by have := HL.out.2; omega) (fun w' Y h => C_tkB (C_blkB (l := b ++ lentTB b.length) (h.blk 0 rfl) (by rw [lentB_len]; have := HL.out.2; omega)) b.length (by rw [lentB_len]; omega) (by rw [List.take_left']; rfl)) n (by have := HSB.out.1; omega))
  rw [hq] at CC
  refine CC.out.mono ?_; rintro e w3 ⟨rfl, hpn⟩
  clear HP CC
  have HP := Aside0.mk hpn
  clear hpn
  go_wp2_with fail
  clear hHeld
  refine hK.out _ _ ?_ (fun hHeld => ?_)
  · (try dsimp only); exact ⟨blk_cell (HP.out.blk 1 rfl) 1, blk_cell (HP.out.blk 1 rfl) 3⟩
  clear hK K
  try simp only [Act.put, List.setIfInBounds_toArray, List.set_cons_zero, List.set_cons_succ]
  refine wpAnyH_ready (rs := [10]) (by kernel_rfl) (by simp) ?_
  refine AllReadyH.cons (o := ({ dst := (some 107), op := (Op.call { callee := (Callee.value (Operand.func 42)), args := #[(Operand.tmp 102), (Operand.tmp 104), (Operand.tmp 106)], argTypes := #[50, 33, 3] }), type := 24, pos := "law.go:49", after := #[{ on := 5, ground := Ground.data }, { on := 7, ground := Ground.data }, { on := 9, ground := Ground.data }, { on := 4, ground := Ground.chain }], guard := none } : Oper)) rfl (fun K hK => ?_) AllReadyH.nil
  go_simp
  have CC := Aside0.mk (c_rcrashD HP.out 2 g2 R ex rfl S j HI.out HJ.out A3 c3 b (by have := HL.out.2; omega) (fun w' hb => Kd.C_below H3.out hb) n)
  rw [hq] at CC
  refine CC.out.mono ?_; rintro e w4 ⟨rfl, Q, ex2, hin, hpn⟩
  clear HP CC
  have HP := Aside0.mk hpn
  clear hpn
  have HIn := Aside0.mk hin
  clear hin
  go_wp2_with fail
  clear hHeld
  refine hK.out _ _ ?_ (fun hHeld => ?_)
  · (try dsimp only); exact ⟨blk_cell (HP.out.blk 1 rfl) 1, blk_cell (HP.out.blk 1 rfl) 3⟩
  clear hK K
  try simp only [Act.put, List.setIfInBounds_toArray, List.set_cons_zero, List.set_cons_succ]
  refine wpAnyH_take (i := 11) (oi := ({ dst := (some 108), op := (Op.binOp BinOp.eql 24 (Operand.tmp 101) (Operand.tmp 107) 24), type := 4, pos := "law.go:49", after := #[{ on := 4, ground := Ground.data }, { on := 10, ground := Ground.data }], guard := none } : Oper)) (v := ?_) rfl (by kernel_rfl) (by kernel_rfl) (by kernel_rfl) (fun _ _ _ h => h) (Or.inl ⟨by rfl, ?_⟩) hHeld ?_
  rotate_left
  · intro w_ hSw; (try dsimp only at hSw); go_simp; try (with_reducible rfl)
  try simp only [Act.put, List.setIfInBounds_toArray, List.set_cons_zero, List.set_cons_succ]
  refine wpAnyH_take (i := 12) (oi := ({ dst := (some 109), op := (Op.move (Operand.tmp 108)), type := 4, pos := "law.go:49", after := #[{ on := 11, ground := Ground.data }, { on := 10, ground := Ground.chain }], guard := none } : Oper)) (v := ?_) rfl (by kernel_rfl) (by kernel_rfl) (by kernel_rfl) (fun _ _ _ h => h) (Or.inl ⟨by rfl, ?_⟩) hHeld ?_
  rotate_left
  · intro w_ hSw; (try dsimp only at hSw); go_simp; try (with_reducible rfl)
  try simp only [Act.put, List.setIfInBounds_toArray, List.set_cons_zero, List.set_cons_succ]
  refine wpAnyH_take (i := 13) (oi := ({ dst := (some 110), op := (Op.move (Operand.tmp 16)), type := 33, pos := "law.go:49", after := #[{ on := 12, ground := Ground.guard }], guard := (some (12, true)) } : Oper)) (v := ?_) rfl (by kernel_rfl) (by kernel_rfl) (by kernel_rfl) (fun _ _ _ h => h) (Or.inl ⟨by rfl, ?_⟩) hHeld ?_
  rotate_left
  · intro w_ hSw; (try dsimp only at hSw); go_simp; try (with_reducible rfl)
  try simp only [Act.put, List.setIfInBounds_toArray, List.set_cons_zero, List.set_cons_succ]
  refine wpAnyH_take (i := 14) (oi := ({ dst := (some 111), op := (Op.fieldAddr 43 (Operand.tmp 5) 3), type := 0, pos := "law.go:49", after := #[{ on := 12, ground := Ground.guard }], guard := (some (12, true)) } : Oper)) (v := ?_) rfl (by kernel_rfl) (by kernel_rfl) (by kernel_rfl) (fun _ _ _ h => h) (Or.inl ⟨by rfl, ?_⟩) hHeld ?_
  rotate_left
  · intro w_ hSw; (try dsimp only at hSw); go_simp; try (with_reducible rfl)
  try simp only [Act.put, List.setIfInBounds_toArray, List.set_cons_zero, List.set_cons_succ]
  refine wpAnyH_take (i := 15) (oi := ({ dst := (some 112), op := (Op.load 33 (Operand.tmp 111)), type := 33, pos := "law.go:49", after := #[{ on := 14, ground := Ground.data }, { on := 12, ground := Ground.guard }], guard := (some (12, true)) } : Oper)) (v := ?_) rfl (by kernel_rfl) (by kernel_rfl) (by kernel_rfl) (fun _ _ _ h => h) (Or.inl ⟨by rfl, ?_⟩) hHeld ?_
  rotate_left
  · intro w_ hSw; (try dsimp only at hSw); go_simp; try (with_reducible rfl)
  try simp only [Act.put, List.setIfInBounds_toArray, List.set_cons_zero, List.set_cons_succ]
  refine wpAnyH_ready (rs := [16]) (by kernel_rfl) (by simp) ?_
  refine AllReadyH.cons (o := ({ dst := (some 113), op := (Op.call { callee := (Callee.value (Operand.func 43)), args := #[(Operand.tmp 110), (Operand.tmp 112)], argTypes := #[33, 33] }), type := 4, pos := "law.go:49", after := #[{ on := 13, ground := Ground.data }, { on := 15, ground := Ground.data }, { on := 12, ground := Ground.chain }, { on := 12, ground := Ground.guard }], guard := (some (12, true)) } : Oper)) rfl (fun K hK => ?_) AllReadyH.nil
  go_simp
  have CC := Aside0.mk (c_keptB g_l A3 c3 b _ (HP.out.blk 0 rfl) (Kd.C_below H3.out HP.out.below) HL.out.1 (by have := HL.out.2; omega))
  refine CC.out.mono ?_; rintro e w5 ⟨rfl, hb⟩
  have HPn := Aside0.mk (HP.out.call hb); clear HP; have HP := HPn; clear HPn
  clear hb CC
  go_wp2_with fail
  clear hHeld
  refine hK.out _ _ ?_ (fun hHeld => ?_)
  · (try dsimp only); exact ⟨blk_cell (HP.out.blk 1 rfl) 1, blk_cell (HP.out.blk 1 rfl) 3⟩
  clear hK K
  try simp only [Act.put, List.setIfInBounds_toArray, List.set_cons_zero, List.set_cons_succ]
  refine wpAnyH_take (i := 17) (oi := ({ dst := (some 114), op := (Op.pick (Operand.tmp 109) (Operand.tmp 113) (Operand.const (Value.bool false))), type := 4, pos := "law.go:49", after := #[{ on := 12, ground := Ground.data }, { on := 16, ground := Ground.data }], guard := none } : Oper)) (v := ?_) rfl (by kernel_rfl) (by kernel_rfl) (by kernel_rfl) (fun _ _ _ h => h) (Or.inl ⟨by rfl, ?_⟩) hHeld ?_
  rotate_left
  · intro w_ hSw; (try dsimp only at hSw); go_simp; try (with_reducible rfl)
  try simp only [Act.put, List.setIfInBounds_toArray, List.set_cons_zero, List.set_cons_succ]
  refine wpAnyH_take (i := 18) (oi := ({ dst := (some 6), op := (Op.assign (Operand.tmp 114)), type := 4, pos := "law.go:49", after := #[{ on := 17, ground := Ground.data }, { on := 16, ground := Ground.chain }, { on := 0, ground := Ground.phase }, { on := 1, ground := Ground.phase }, { on := 2, ground := Ground.phase }, { on := 3, ground := Ground.phase }, { on := 4, ground := Ground.phase }, { on := 5, ground := Ground.phase }, { on := 6, ground := Ground.phase }, { on := 7, ground := Ground.phase }, { on := 8, ground := Ground.phase }, { on := 9, ground := Ground.phase }, { on := 10, ground := Ground.phase }, { on := 11, ground := Ground.phase }, { on := 12, ground := Ground.phase }, { on := 13, ground := Ground.phase }, { on := 14, ground := Ground.phase }, { on := 15, ground := Ground.phase }, { on := 16, ground := Ground.phase }, { on := 17, ground := Ground.phase }], guard := none } : Oper)) (v := ?_) rfl (by kernel_rfl) (by kernel_rfl) (by kernel_rfl) (fun _ _ _ h => h) (Or.inl ⟨by rfl, ?_⟩) hHeld ?_
  rotate_left
  · intro w_ hSw; (try dsimp only at hSw); go_simp; try (with_reducible rfl)
  try simp only [Act.put, List.setIfInBounds_toArray, List.set_cons_zero, List.set_cons_succ]
  refine wpAnyH_done (by kernel_rfl) ?_ _
  clear hHeld hq
  go_wp2_with fail
  go_ret
  exact ⟨rfl, _, _, _, HIn.out, HP.out.drop1.drop1⟩
set_option maxHeartbeats 8000000 in
set_option maxRecDepth 100000 in
theorem c_actX {w0 w : World} (g1 g2 : Nat) (S : DS) (R : RS) (ex : List Pt) (j : Nat) (HP0 : Hp w0 w [rRef w0.heap.size g2 R ex, rDisk w0.heap.size g1 S]) (hI : Inv S R j) (hj : j < 80) (n : Int) (k : Int) (h0 : k ≠ 0) (h1 : k ≠ 1) (h2 : k ≠ 2) (h3 : k ≠ 3) (h4 : k ≠ 4) (v2 v3 : Value) (hv2 : v2.oneCell' = true) (hv3 : v3.oneCell' = true) :
    Calls Try.prog 26 #[.pointer (some ⟨g1, 0, none⟩), .pointer (some ⟨g2, 0, none⟩), .agg #[.int .i64 k, .int .i64 n, v2, v3]] w (actPost w0 g1 g2 j) := by
  have HP := Aside0.mk HP0
  have HI := Aside0.mk hI
  have HJ := Aside0.mk hj
  have HSB := Aside0.mk (show S.l.length ≤ 1000 ∧ R.soft.length ≤ 1000 ∧ R.firm.length ≤ 8000 from ⟨by have := hI.l; omega, by have := hI.soft; have := hI.l; omega, by have := hI.f; omega⟩)
  have HV := Aside0.mk (And.intro hv2 hv3)
  have d0 : (k == 0) = false := beq_eq_false_iff_ne.2 h0
  have d1 : (k == 1) = false := beq_eq_false_iff_ne.2 h1
  have d2 : (k == 2) = false := beq_eq_false_iff_ne.2 h2
  have d3 : (k == 3) = false := beq_eq_false_iff_ne.2 h3
  have d4 : (k == 4) = false := beq_eq_false_iff_ne.2 h4
  clear h0 h1 h2 h3 h4
  clear HP0 hI hj
  go_enter Try.func26, Try.ntmps26
  go_wp2_with (first | ((with_reducible refine gate_dst (N := 5) rfl ?_); refine ev_box rfl 43 (.tmp 2) rfl (#[.int .i64 k, .int .i64 n, v2, v3]) rfl ?_; intro g_x w1 hge hg hb; have HPn := Aside0.mk (HP.out.newB hb hg hge); clear HP; have HP := HPn; clear HPn; clear hge hg hb; have hc0 : w1.cell? ⟨g_x, 0, none⟩ = some (.int .i64 k) := blk_cell (HP.out.blk 0 rfl) 0; have hc1 : w1.cell? ⟨g_x, 1, none⟩ = some (.int .i64 n) := blk_cell (HP.out.blk 0 rfl) 1; have hc2 : w1.cell? ⟨g_x, 2, none⟩ = some (v2) := blk_cell (HP.out.blk 0 rfl) 2; have hc3 : w1.cell? ⟨g_x, 3, none⟩ = some (v3) := blk_cell (HP.out.blk 0 rfl) 3))
  go_ret
  exact ⟨rfl, S, R, ex, ⟨HI.out.sim, HI.out.ok, by have := HI.out.l; omega, by have := HI.out.f; omega, HJ.out⟩, HP.out.drop1⟩
end Go.Proofs.Ytejfocliopbocaa.Su
