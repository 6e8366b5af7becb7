import Derived.Test.YtlgnfbgjdkbfoaaS08
namespace Go.Proofs.Ytlgnfbgjdkbfoaa.Pg
open Go.RowKit Go.Proofs.Ytlgnfbgjdkbfoaa.XH Go.Proofs.Ytlgnfbgjdkbfoaa.Wd Go.Proofs.YtlgnfbgjdkbfoaaW.PrintWords Go.Proofs.YtlgnfbgjdkbfoaaW.PrintLast Go.Proofs.YtlgnfbgjdkbfoaaW.PrintMore Go.Proofs.YtlgnfbgjdkbfoaaXe Go.Proofs.YtlgnfbgjdkbfoaaXs
set_option linter.unusedVariables false
set_option linter.unusedSimpArgs false
attribute [local go_sem ↓] Go.wp_at_zero Go.wp_at_succ
set_option maxHeartbeats 8000000 in
set_option maxRecDepth 100000 in
theorem c_lfine (Ak : Option Addr) (nk ck : Nat) (A : Option Addr) (c : Nat) (l : List S66) (w : World) (h1 : k66.C w A l.length l) (hl : l.length ≤ 1000000) :
    Calls Try.prog 125 #[.agg #[.slice Ak nk ck, .slice A l.length c]] w fun e w' => e = .returned (.bool (linksS l)) ∧ Below w.heap.size w w' := by
  have HR := Aside0.mk h1
  have HL := Aside0.mk hl
  have HP := Aside0.mk (Hp.start w)
  have hll : (l.length : Int) ≤ 1000000 := by omega
  clear h1 hl
  go_enter Try.func125, Try.ntmps125
  go_wp2_with (first | ((with_reducible refine gate_dst (N := 1) rfl ?_); refine ev_box rfl 113 (.tmp 0) rfl (#[.slice Ak nk ck, .slice A l.length c]) rfl ?_; intro g1 wa hge hg hb; have HPn := Aside0.mk (HP.out.newB hb hg hge); clear HP; have HP := HPn; clear HPn; clear hge hg hb; have hc1 : wa.cell? ⟨g1, 1, none⟩ = some (.slice A l.length c) := blk_cell (HP.out.blk 0 rfl) 1))
  clear hc1
  go_loopg [8] l.length (fun kq vq w' => ∃ (j : Nat) (x : Int), vq = .int .i64 x ∧ Aside0 (x = (j : Int)) ∧ Aside0 (kq + j = l.length) ∧ Aside0 (linksTo l j = true) ∧ Aside0 (Hp w w' [.blk g1 (.cells #[.slice Ak nk ck, .slice A l.length c] 113 (0, 0))]))
  case atStart => exact ⟨0, 0, rfl, ⟨rfl⟩, ⟨rfl⟩, ⟨rfl⟩, HP⟩
  clear HP
  obtain ⟨j, x, rfl, HX, HK, HG, HP⟩ := hrel
  have hx := HX.out
  by_cases c1 : j < l.length
  · have d1 : decide (x < (l.length : Int)) = true := decide_eq_true (by omega)
    have ex : IntKind.i64.wrap (x + 1) = x + 1 := IntWalk.i64_in _ (by omega)
    have p0 : 0 ≤ x := by omega
    have q0 : x < (l.length : Int) := by omega
    obtain ⟨y, hy⟩ : ∃ p, l[j]? = some p := ⟨_, List.getElem?_eq_getElem c1⟩
    obtain ⟨Ab, Ao, rfl⟩ := C_addrK (by decide) HR.out (by omega)
    obtain ⟨cs, hcs, hra⟩ := range_K HR.out hy
    have hcs2 := k66_open hcs
    subst hcs2
    have hxt : x.toNat = j := by omega
    have HRA := Aside0.mk (show w.rangeAt Ab (Ao + x.toNat * Kd.sz k66) (c66 y) from by rw [hxt]; exact hra)
    have HY := Aside0.mk hy
    have hi9 : (Try.prog.info? 66).map (·.size) = some (c66 y).length := by kernel_rfl
    have HYD := Aside0.mk (show l.getD j z66 = y from by rw [List.getD_eq_getElem?_getD, hy]; rfl)
    have HBAD := Aside0.mk (fun hb : linkAt l j y = false => (show linksS l = false from by unfold linksS; rw [linksTo_bad l c1 (by rw [HYD.out]; exact hb)]; rfl))
    clear hy hcs hra hxt hx
    go_upto_region 4 with (first | ((with_reducible refine gate_dst (N := 12) rfl ?_); refine ev_elem rfl 66 (.tmp 11) rfl Ab (Ao + x.toNat * Kd.sz k66) rfl (c66 y) (fun j_ v_ hv_ => (HP.out.below.cell (World.block_lt_of_cell? w _ (HRA.out j_ v_ hv_))).trans (HRA.out j_ v_ hv_)) Try.underlying66 rfl hi9 ?_) | ((with_reducible refine gate_dst (N := 4) rfl ?_); refine ev_alloc rfl 66 rfl (.agg (c66 z66).toArray) (by kernel_rfl) ?_; intro gx wc hge hg hb; have HPn := Aside0.mk (HP.out.newB hb hg hge); clear HP; have HP := HPn; clear HPn; clear hge hg hb) | ((with_reducible refine gate_store (t := 66) (p := 4) rfl ?_); refine ev_store rfl 66 (.tmp 4) (.tmp 12) rfl rfl _ rfl (cells := (c66 y).toArray) rfl (HP.out.blk 0 rfl) (by rw [List.size_toArray]; exact hi9) rfl (one_c66 y) ?_; intro wd hg hgr; have HPn := Aside0.mk (HP.out.setB 0 rfl hgr hg); clear HP; have HP := HPn; clear HPn; clear hg hgr))
    have hx := HX.out
    by_cases ck : keyOk y.f0 = true
    · have hkey : keyOk y.f0 = true := ck
      clear ck
      by_cases c0 : j = 0
      · have c0b : decide (0 < x) = false := decide_eq_false (by omega)
        have HPD := Aside0.mk (show linkAt l j y = (keyOk y.f0 && (decide (j = 0) || false) && decide (1 ≤ y.f2) && decide (y.f2 ≤ 65536)) from by unfold linkAt; simp [c0])
        clear hx c1
        by_cases cn : y.f2 < 1
        · have n1 : decide (y.f2 < 1) = true := decide_eq_true cn
          have n3 : ¬ (1 ≤ y.f2) := by omega
          clear cn
          refine held_named (S := (fun w' => w'.cell? ⟨gx, 0, none⟩ = some (.string y.f0) ∧ w'.cell? ⟨gx, 33, none⟩ = some (.int .i64 y.f2))) (by kernel_rfl) (fun wd6 hwd6 => ?_)
          have HPn := Aside0.mk (HP.out.drewN 1)
          rw [← World.drew_is_drewN, hwd6] at HPn
          clear HP hwd6
          have HP := HPn
          clear HPn
          refine ⟨by (try dsimp only); exact ⟨cell_f (HP.out.blk 0 rfl), cell_n (HP.out.blk 0 rfl)⟩, fun hHeld => ?_⟩
          refine wpAnyH_take (i := 0) (oi := ({ dst := (some 13), op := (Op.fieldAddr 66 (Operand.tmp 4) 0), type := 0, pos := "page.go:46", after := #[], guard := none } : Oper)) (v := ?_) rfl (by kernel_rfl) (by kernel_rfl) (by kernel_rfl) (fun _ _ _ h => h) (Or.inl ⟨by rfl, ?_⟩) hHeld ?_
          rotate_left
          · intro w_ hSw; (try dsimp only at hSw); go_simp; try (with_reducible rfl)
          try simp only [Act.put, List.setIfInBounds_toArray, List.set_cons_zero, List.set_cons_succ]
          refine wpAnyH_take (i := 1) (oi := ({ dst := (some 14), op := (Op.load 9 (Operand.tmp 13)), type := 9, pos := "page.go:46", after := #[{ on := 0, ground := Ground.data }], guard := none } : Oper)) (v := ?_) rfl (by kernel_rfl) (by kernel_rfl) (by kernel_rfl) (fun _ _ _ h => h) (Or.inl ⟨by rfl, ?_⟩) hHeld ?_
          rotate_left
          · intro w_ hSw; (try dsimp only at hSw); go_simp; try (with_reducible rfl)
          try simp only [Act.put, List.setIfInBounds_toArray, List.set_cons_zero, List.set_cons_succ]
          refine wpAnyH_ready (rs := [2]) (by kernel_rfl) (by simp) ?_
          refine AllReadyH.cons (o := ({ dst := (some 15), op := (Op.call { callee := (Callee.value (Operand.func 60)), args := #[(Operand.tmp 14)], argTypes := #[9] }), type := 4, pos := "page.go:46", after := #[{ on := 1, ground := Ground.data }], guard := none } : Oper)) rfl (fun K hK => ?_) AllReadyH.nil
          go_simp
          go_at_call 60; refine (c_key _ _).mono ?_; rintro e w_ ⟨rfl, rfl⟩; (try rw [hkey])
          go_wp2_with fail
          clear hHeld
          refine hK.out _ _ ?_ (fun hHeld => ?_)
          · (try dsimp only); exact ⟨cell_f (HP.out.blk 0 rfl), cell_n (HP.out.blk 0 rfl)⟩
          clear hK K
          try simp only [Act.put, List.setIfInBounds_toArray, List.set_cons_zero, List.set_cons_succ]
          refine wpAnyH_take (i := 3) (oi := ({ dst := (some 16), op := (Op.unOp UnOp.not 4 (Operand.tmp 15)), type := 4, pos := "page.go:46", after := #[{ on := 2, ground := Ground.data }], guard := none } : Oper)) (v := ?_) rfl (by kernel_rfl) (by kernel_rfl) (by kernel_rfl) (fun _ _ _ h => h) (Or.inl ⟨by rfl, ?_⟩) hHeld ?_
          rotate_left
          · intro w_ hSw; (try dsimp only at hSw); go_simp; try (with_reducible rfl)
          try simp only [Act.put, List.setIfInBounds_toArray, List.set_cons_zero, List.set_cons_succ]
          refine wpAnyH_take (i := 4) (oi := ({ dst := (some 17), op := (Op.move (Operand.tmp 16)), type := 4, pos := "page.go:46", after := #[{ on := 3, ground := Ground.data }, { on := 2, ground := Ground.chain }], guard := none } : Oper)) (v := ?_) rfl (by kernel_rfl) (by kernel_rfl) (by kernel_rfl) (fun _ _ _ h => h) (Or.inl ⟨by rfl, ?_⟩) hHeld ?_
          rotate_left
          · intro w_ hSw; (try dsimp only at hSw); go_simp; try (with_reducible rfl)
          try simp only [Act.put, List.setIfInBounds_toArray, List.set_cons_zero, List.set_cons_succ]
          refine wpAnyH_take (i := 5) (oi := ({ dst := (some 18), op := (Op.move (Operand.tmp 3)), type := 3, pos := "page.go:46", after := #[{ on := 4, ground := Ground.guard }], guard := (some (4, false)) } : Oper)) (v := ?_) rfl (by kernel_rfl) (by kernel_rfl) (by kernel_rfl) (fun _ _ _ h => h) (Or.inl ⟨by rfl, ?_⟩) hHeld ?_
          rotate_left
          · intro w_ hSw; (try dsimp only at hSw); go_simp; try (with_reducible rfl)
          try simp only [Act.put, List.setIfInBounds_toArray, List.set_cons_zero, List.set_cons_succ]
          refine wpAnyH_take (i := 6) (oi := ({ dst := (some 19), op := (Op.binOp BinOp.gtr 3 (Operand.tmp 18) (Operand.const (Value.int IntKind.i64 0)) 3), type := 4, pos := "page.go:46", after := #[{ on := 5, ground := Ground.data }, { on := 4, ground := Ground.guard }], guard := (some (4, false)) } : Oper)) (v := ?_) rfl (by kernel_rfl) (by kernel_rfl) (by kernel_rfl) (fun _ _ _ h => h) (Or.inl ⟨by rfl, ?_⟩) hHeld ?_
          rotate_left
          · intro w_ hSw; (try dsimp only at hSw); go_simp; try (with_reducible rfl)
          try simp only [Act.put, List.setIfInBounds_toArray, List.set_cons_zero, List.set_cons_succ]
          refine wpAnyH_take (i := 7) (oi := ({ dst := (some 20), op := (Op.move (Operand.tmp 19)), type := 4, pos := "page.go:46", after := #[{ on := 6, ground := Ground.data }, { on := 4, ground := Ground.chain }, { on := 4, ground := Ground.guard }], guard := (some (4, false)) } : Oper)) (v := ?_) rfl (by kernel_rfl) (by kernel_rfl) (by kernel_rfl) (fun _ _ _ h => h) (Or.inl ⟨by rfl, ?_⟩) hHeld ?_
          rotate_left
          · intro w_ hSw; (try dsimp only at hSw); go_simp; try (with_reducible rfl)
          try simp only [Act.put, List.setIfInBounds_toArray, List.set_cons_zero, List.set_cons_succ]
          refine wpAnyH_take (i := 8) (oi := ({ dst := (some 21), op := (Op.fieldAddr 66 (Operand.tmp 4) 0), type := 0, pos := "page.go:46", after := #[{ on := 7, ground := Ground.guard }], guard := (some (7, true)) } : Oper)) (v := _) rfl (by kernel_rfl) (by kernel_rfl) (by kernel_rfl) (fun _ _ _ h => h) (Or.inr ⟨by rfl, rfl⟩) hHeld ?_
          try simp only [Act.put, List.setIfInBounds_toArray, List.set_cons_zero, List.set_cons_succ]
          refine wpAnyH_take (i := 9) (oi := ({ dst := (some 22), op := (Op.load 9 (Operand.tmp 21)), type := 9, pos := "page.go:46", after := #[{ on := 8, ground := Ground.data }, { on := 7, ground := Ground.guard }], guard := (some (7, true)) } : Oper)) (v := _) rfl (by kernel_rfl) (by kernel_rfl) (by kernel_rfl) (fun _ _ _ h => h) (Or.inr ⟨by rfl, rfl⟩) hHeld ?_
          try simp only [Act.put, List.setIfInBounds_toArray, List.set_cons_zero, List.set_cons_succ]
          refine wpAnyH_take (i := 10) (oi := ({ dst := (some 23), op := (Op.fieldAddr 113 (Operand.tmp 1) 1), type := 0, pos := "page.go:46", after := #[{ on := 7, ground := Ground.guard }], guard := (some (7, true)) } : Oper)) (v := _) rfl (by kernel_rfl) (by kernel_rfl) (by kernel_rfl) (fun _ _ _ h => h) (Or.inr ⟨by rfl, rfl⟩) hHeld ?_
          try simp only [Act.put, List.setIfInBounds_toArray, List.set_cons_zero, List.set_cons_succ]
          refine wpAnyH_take (i := 11) (oi := ({ dst := (some 24), op := (Op.load 25 (Operand.tmp 23)), type := 25, pos := "page.go:46", after := #[{ on := 10, ground := Ground.data }, { on := 7, ground := Ground.guard }], guard := (some (7, true)) } : Oper)) (v := _) rfl (by kernel_rfl) (by kernel_rfl) (by kernel_rfl) (fun _ _ _ h => h) (Or.inr ⟨by rfl, rfl⟩) hHeld ?_
          try simp only [Act.put, List.setIfInBounds_toArray, List.set_cons_zero, List.set_cons_succ]
          refine wpAnyH_take (i := 12) (oi := ({ dst := (some 25), op := (Op.move (Operand.tmp 3)), type := 3, pos := "page.go:46", after := #[{ on := 7, ground := Ground.guard }], guard := (some (7, true)) } : Oper)) (v := _) rfl (by kernel_rfl) (by kernel_rfl) (by kernel_rfl) (fun _ _ _ h => h) (Or.inr ⟨by rfl, rfl⟩) hHeld ?_
          try simp only [Act.put, List.setIfInBounds_toArray, List.set_cons_zero, List.set_cons_succ]
          refine wpAnyH_take (i := 13) (oi := ({ dst := (some 26), op := (Op.binOp BinOp.sub 3 (Operand.tmp 25) (Operand.const (Value.int IntKind.i64 1)) 3), type := 3, pos := "page.go:46", after := #[{ on := 12, ground := Ground.data }, { on := 7, ground := Ground.guard }], guard := (some (7, true)) } : Oper)) (v := _) rfl (by kernel_rfl) (by kernel_rfl) (by kernel_rfl) (fun _ _ _ h => h) (Or.inr ⟨by rfl, rfl⟩) hHeld ?_
          try simp only [Act.put, List.setIfInBounds_toArray, List.set_cons_zero, List.set_cons_succ]
          refine wpAnyH_take (i := 14) (oi := ({ dst := (some 27), op := (Op.indexAddr 25 (Operand.tmp 24) (Operand.tmp 26)), type := 0, pos := "page.go:46", after := #[{ on := 11, ground := Ground.data }, { on := 13, ground := Ground.data }, { on := 7, ground := Ground.guard }], guard := (some (7, true)) } : Oper)) (v := _) rfl (by kernel_rfl) (by kernel_rfl) (by kernel_rfl) (fun _ _ _ h => h) (Or.inr ⟨by rfl, rfl⟩) hHeld ?_
          try simp only [Act.put, List.setIfInBounds_toArray, List.set_cons_zero, List.set_cons_succ]
          refine wpAnyH_take (i := 15) (oi := ({ dst := (some 28), op := (Op.fieldAddr 66 (Operand.tmp 27) 0), type := 0, pos := "page.go:46", after := #[{ on := 14, ground := Ground.data }, { on := 7, ground := Ground.guard }], guard := (some (7, true)) } : Oper)) (v := _) rfl (by kernel_rfl) (by kernel_rfl) (by kernel_rfl) (fun _ _ _ h => h) (Or.inr ⟨by rfl, rfl⟩) hHeld ?_
          try simp only [Act.put, List.setIfInBounds_toArray, List.set_cons_zero, List.set_cons_succ]
          refine wpAnyH_take (i := 16) (oi := ({ dst := (some 29), op := (Op.load 9 (Operand.tmp 28)), type := 9, pos := "page.go:46", after := #[{ on := 15, ground := Ground.data }, { on := 7, ground := Ground.guard }], guard := (some (7, true)) } : Oper)) (v := _) rfl (by kernel_rfl) (by kernel_rfl) (by kernel_rfl) (fun _ _ _ h => h) (Or.inr ⟨by rfl, rfl⟩) hHeld ?_
          try simp only [Act.put, List.setIfInBounds_toArray, List.set_cons_zero, List.set_cons_succ]
          refine wpAnyH_take (i := 17) (oi := ({ dst := (some 30), op := (Op.binOp BinOp.leq 9 (Operand.tmp 22) (Operand.tmp 29) 9), type := 4, pos := "page.go:46", after := #[{ on := 9, ground := Ground.data }, { on := 16, ground := Ground.data }, { on := 7, ground := Ground.guard }], guard := (some (7, true)) } : Oper)) (v := _) rfl (by kernel_rfl) (by kernel_rfl) (by kernel_rfl) (fun _ _ _ h => h) (Or.inr ⟨by rfl, rfl⟩) hHeld ?_
          try simp only [Act.put, List.setIfInBounds_toArray, List.set_cons_zero, List.set_cons_succ]
          refine wpAnyH_take (i := 18) (oi := ({ dst := (some 31), op := (Op.pick (Operand.tmp 20) (Operand.tmp 30) (Operand.const (Value.bool false))), type := 4, pos := "page.go:46", after := #[{ on := 7, ground := Ground.data }, { on := 17, ground := Ground.data }, { on := 4, ground := Ground.guard }], guard := (some (4, false)) } : Oper)) (v := ?_) rfl (by kernel_rfl) (by kernel_rfl) (by kernel_rfl) (fun _ _ _ h => h) (Or.inl ⟨by rfl, ?_⟩) hHeld ?_
          rotate_left
          · intro w_ hSw; (try dsimp only at hSw); go_simp; try (with_reducible rfl)
          try simp only [Act.put, List.setIfInBounds_toArray, List.set_cons_zero, List.set_cons_succ]
          refine wpAnyH_take (i := 19) (oi := ({ dst := (some 32), op := (Op.pick (Operand.tmp 17) (Operand.const (Value.bool true)) (Operand.tmp 31)), type := 4, pos := "page.go:46", after := #[{ on := 4, ground := Ground.data }, { on := 18, ground := Ground.data }], guard := none } : Oper)) (v := ?_) rfl (by kernel_rfl) (by kernel_rfl) (by kernel_rfl) (fun _ _ _ h => h) (Or.inl ⟨by rfl, ?_⟩) hHeld ?_
          rotate_left
          · intro w_ hSw; (try dsimp only at hSw); go_simp; try (with_reducible rfl)
          try simp only [Act.put, List.setIfInBounds_toArray, List.set_cons_zero, List.set_cons_succ]
          refine wpAnyH_take (i := 20) (oi := ({ dst := (some 33), op := (Op.move (Operand.tmp 32)), type := 4, pos := "page.go:46", after := #[{ on := 19, ground := Ground.data }, { on := 7, ground := Ground.chain }], guard := none } : Oper)) (v := ?_) rfl (by kernel_rfl) (by kernel_rfl) (by kernel_rfl) (fun _ _ _ h => h) (Or.inl ⟨by rfl, ?_⟩) hHeld ?_
          rotate_left
          · intro w_ hSw; (try dsimp only at hSw); go_simp; try (with_reducible rfl)
          try simp only [Act.put, List.setIfInBounds_toArray, List.set_cons_zero, List.set_cons_succ]
          refine wpAnyH_take (i := 21) (oi := ({ dst := (some 34), op := (Op.fieldAddr 66 (Operand.tmp 4) 2), type := 0, pos := "page.go:46", after := #[{ on := 20, ground := Ground.guard }], guard := (some (20, false)) } : Oper)) (v := ?_) rfl (by kernel_rfl) (by kernel_rfl) (by kernel_rfl) (fun _ _ _ h => h) (Or.inl ⟨by rfl, ?_⟩) hHeld ?_
          rotate_left
          · intro w_ hSw; (try dsimp only at hSw); go_simp; try (with_reducible rfl)
          try simp only [Act.put, List.setIfInBounds_toArray, List.set_cons_zero, List.set_cons_succ]
          refine wpAnyH_take (i := 22) (oi := ({ dst := (some 35), op := (Op.load 3 (Operand.tmp 34)), type := 3, pos := "page.go:46", after := #[{ on := 21, ground := Ground.data }, { on := 20, ground := Ground.guard }], guard := (some (20, false)) } : Oper)) (v := ?_) rfl (by kernel_rfl) (by kernel_rfl) (by kernel_rfl) (fun _ _ _ h => h) (Or.inl ⟨by rfl, ?_⟩) hHeld ?_
          rotate_left
          · intro w_ hSw; (try dsimp only at hSw); go_simp; try (with_reducible rfl)
          try simp only [Act.put, List.setIfInBounds_toArray, List.set_cons_zero, List.set_cons_succ]
          refine wpAnyH_take (i := 23) (oi := ({ dst := (some 36), op := (Op.binOp BinOp.lss 3 (Operand.tmp 35) (Operand.const (Value.int IntKind.i64 1)) 3), type := 4, pos := "page.go:46", after := #[{ on := 22, ground := Ground.data }, { on := 20, ground := Ground.guard }], guard := (some (20, false)) } : Oper)) (v := ?_) rfl (by kernel_rfl) (by kernel_rfl) (by kernel_rfl) (fun _ _ _ h => h) (Or.inl ⟨by rfl, ?_⟩) hHeld ?_
          rotate_left
          · intro w_ hSw; (try dsimp only at hSw); go_simp; try (with_reducible rfl)
          try simp only [Act.put, List.setIfInBounds_toArray, List.set_cons_zero, List.set_cons_succ]
          refine wpAnyH_take (i := 24) (oi := ({ dst := (some 37), op := (Op.pick (Operand.tmp 33) (Operand.const (Value.bool true)) (Operand.tmp 36)), type := 4, pos := "page.go:46", after := #[{ on := 20, ground := Ground.data }, { on := 23, ground := Ground.data }], guard := none } : Oper)) (v := ?_) rfl (by kernel_rfl) (by kernel_rfl) (by kernel_rfl) (fun _ _ _ h => h) (Or.inl ⟨by rfl, ?_⟩) hHeld ?_
          rotate_left
          · intro w_ hSw; (try dsimp only at hSw); go_simp; try (with_reducible rfl)
          try simp only [Act.put, List.setIfInBounds_toArray, List.set_cons_zero, List.set_cons_succ]
          refine wpAnyH_take (i := 25) (oi := ({ dst := (some 38), op := (Op.move (Operand.tmp 37)), type := 4, pos := "page.go:46", after := #[{ on := 24, ground := Ground.data }, { on := 20, ground := Ground.chain }], guard := none } : Oper)) (v := ?_) rfl (by kernel_rfl) (by kernel_rfl) (by kernel_rfl) (fun _ _ _ h => h) (Or.inl ⟨by rfl, ?_⟩) hHeld ?_
          rotate_left
          · intro w_ hSw; (try dsimp only at hSw); go_simp; try (with_reducible rfl)
          try simp only [Act.put, List.setIfInBounds_toArray, List.set_cons_zero, List.set_cons_succ]
          refine wpAnyH_take (i := 26) (oi := ({ dst := (some 39), op := (Op.fieldAddr 66 (Operand.tmp 4) 2), type := 0, pos := "page.go:46", after := #[{ on := 25, ground := Ground.guard }], guard := (some (25, false)) } : Oper)) (v := _) rfl (by kernel_rfl) (by kernel_rfl) (by kernel_rfl) (fun _ _ _ h => h) (Or.inr ⟨by rfl, rfl⟩) hHeld ?_
          try simp only [Act.put, List.setIfInBounds_toArray, List.set_cons_zero, List.set_cons_succ]
          refine wpAnyH_take (i := 27) (oi := ({ dst := (some 40), op := (Op.load 3 (Operand.tmp 39)), type := 3, pos := "page.go:46", after := #[{ on := 26, ground := Ground.data }, { on := 25, ground := Ground.guard }], guard := (some (25, false)) } : Oper)) (v := _) rfl (by kernel_rfl) (by kernel_rfl) (by kernel_rfl) (fun _ _ _ h => h) (Or.inr ⟨by rfl, rfl⟩) hHeld ?_
          try simp only [Act.put, List.setIfInBounds_toArray, List.set_cons_zero, List.set_cons_succ]
          refine wpAnyH_take (i := 28) (oi := ({ dst := (some 41), op := (Op.binOp BinOp.gtr 3 (Operand.tmp 40) (Operand.const (Value.int IntKind.i64 65536)) 3), type := 4, pos := "page.go:46", after := #[{ on := 27, ground := Ground.data }, { on := 25, ground := Ground.guard }], guard := (some (25, false)) } : Oper)) (v := _) rfl (by kernel_rfl) (by kernel_rfl) (by kernel_rfl) (fun _ _ _ h => h) (Or.inr ⟨by rfl, rfl⟩) hHeld ?_
          try simp only [Act.put, List.setIfInBounds_toArray, List.set_cons_zero, List.set_cons_succ]
          refine wpAnyH_take (i := 29) (oi := ({ dst := (some 42), op := (Op.pick (Operand.tmp 38) (Operand.const (Value.bool true)) (Operand.tmp 41)), type := 4, pos := "page.go:46", after := #[{ on := 25, ground := Ground.data }, { on := 28, ground := Ground.data }], guard := none } : Oper)) (v := ?_) rfl (by kernel_rfl) (by kernel_rfl) (by kernel_rfl) (fun _ _ _ h => h) (Or.inl ⟨by rfl, ?_⟩) hHeld ?_
          rotate_left
          · intro w_ hSw; (try dsimp only at hSw); go_simp; try (with_reducible rfl)
          try simp only [Act.put, List.setIfInBounds_toArray, List.set_cons_zero, List.set_cons_succ]
          refine wpAnyH_done (by kernel_rfl) ?_ _
          go_wp2_with fail
          go_ret
          exact ⟨by rw [HBAD.out (by rw [HPD.out] <;> (simp [*] <;> omega))]; rfl, HP.out.below⟩
        · have n1 : decide (y.f2 < 1) = false := decide_eq_false cn
          have n3 : 1 ≤ y.f2 := by omega
          clear cn
          by_cases cm : y.f2 > 65536
          · have n2 : decide (65536 < y.f2) = true := decide_eq_true cm
            have n4 : ¬ (y.f2 ≤ 65536) := by omega
            clear cm
            refine held_named (S := (fun w' => w'.cell? ⟨gx, 0, none⟩ = some (.string y.f0) ∧ w'.cell? ⟨gx, 33, none⟩ = some (.int .i64 y.f2))) (by kernel_rfl) (fun wd6 hwd6 => ?_)
            have HPn := Aside0.mk (HP.out.drewN 1)
            rw [← World.drew_is_drewN, hwd6] at HPn
            clear HP hwd6
            have HP := HPn
            clear HPn
            refine ⟨by (try dsimp only); exact ⟨cell_f (HP.out.blk 0 rfl), cell_n (HP.out.blk 0 rfl)⟩, fun hHeld => ?_⟩
            refine wpAnyH_take (i := 0) (oi := ({ dst := (some 13), op := (Op.fieldAddr 66 (Operand.tmp 4) 0), type := 0, pos := "page.go:46", after := #[], guard := none } : Oper)) (v := ?_) rfl (by kernel_rfl) (by kernel_rfl) (by kernel_rfl) (fun _ _ _ h => h) (Or.inl ⟨by rfl, ?_⟩) hHeld ?_
            rotate_left
            · intro w_ hSw; (try dsimp only at hSw); go_simp; try (with_reducible rfl)
            try simp only [Act.put, List.setIfInBounds_toArray, List.set_cons_zero, List.set_cons_succ]
            refine wpAnyH_take (i := 1) (oi := ({ dst := (some 14), op := (Op.load 9 (Operand.tmp 13)), type := 9, pos := "page.go:46", after := #[{ on := 0, ground := Ground.data }], guard := none } : Oper)) (v := ?_) rfl (by kernel_rfl) (by kernel_rfl) (by kernel_rfl) (fun _ _ _ h => h) (Or.inl ⟨by rfl, ?_⟩) hHeld ?_
            rotate_left
            · intro w_ hSw; (try dsimp only at hSw); go_simp; try (with_reducible rfl)
            try simp only [Act.put, List.setIfInBounds_toArray, List.set_cons_zero, List.set_cons_succ]
            refine wpAnyH_ready (rs := [2]) (by kernel_rfl) (by simp) ?_
            refine AllReadyH.cons (o := ({ dst := (some 15), op := (Op.call { callee := (Callee.value (Operand.func 60)), args := #[(Operand.tmp 14)], argTypes := #[9] }), type := 4, pos := "page.go:46", after := #[{ on := 1, ground := Ground.data }], guard := none } : Oper)) rfl (fun K hK => ?_) AllReadyH.nil
            go_simp
            go_at_call 60; refine (c_key _ _).mono ?_; rintro e w_ ⟨rfl, rfl⟩; (try rw [hkey])
            go_wp2_with fail
            clear hHeld
            refine hK.out _ _ ?_ (fun hHeld => ?_)
            · (try dsimp only); exact ⟨cell_f (HP.out.blk 0 rfl), cell_n (HP.out.blk 0 rfl)⟩
            clear hK K
            try simp only [Act.put, List.setIfInBounds_toArray, List.set_cons_zero, List.set_cons_succ]
            refine wpAnyH_take (i := 3) (oi := ({ dst := (some 16), op := (Op.unOp UnOp.not 4 (Operand.tmp 15)), type := 4, pos := "page.go:46", after := #[{ on := 2, ground := Ground.data }], guard := none } : Oper)) (v := ?_) rfl (by kernel_rfl) (by kernel_rfl) (by kernel_rfl) (fun _ _ _ h => h) (Or.inl ⟨by rfl, ?_⟩) hHeld ?_
            rotate_left
            · intro w_ hSw; (try dsimp only at hSw); go_simp; try (with_reducible rfl)
            try simp only [Act.put, List.setIfInBounds_toArray, List.set_cons_zero, List.set_cons_succ]
            refine wpAnyH_take (i := 4) (oi := ({ dst := (some 17), op := (Op.move (Operand.tmp 16)), type := 4, pos := "page.go:46", after := #[{ on := 3, ground := Ground.data }, { on := 2, ground := Ground.chain }], guard := none } : Oper)) (v := ?_) rfl (by kernel_rfl) (by kernel_rfl) (by kernel_rfl) (fun _ _ _ h => h) (Or.inl ⟨by rfl, ?_⟩) hHeld ?_
            rotate_left
            · intro w_ hSw; (try dsimp only at hSw); go_simp; try (with_reducible rfl)
            try simp only [Act.put, List.setIfInBounds_toArray, List.set_cons_zero, List.set_cons_succ]
            refine wpAnyH_take (i := 5) (oi := ({ dst := (some 18), op := (Op.move (Operand.tmp 3)), type := 3, pos := "page.go:46", after := #[{ on := 4, ground := Ground.guard }], guard := (some (4, false)) } : Oper)) (v := ?_) rfl (by kernel_rfl) (by kernel_rfl) (by kernel_rfl) (fun _ _ _ h => h) (Or.inl ⟨by rfl, ?_⟩) hHeld ?_
            rotate_left
            · intro w_ hSw; (try dsimp only at hSw); go_simp; try (with_reducible rfl)
            try simp only [Act.put, List.setIfInBounds_toArray, List.set_cons_zero, List.set_cons_succ]
            refine wpAnyH_take (i := 6) (oi := ({ dst := (some 19), op := (Op.binOp BinOp.gtr 3 (Operand.tmp 18) (Operand.const (Value.int IntKind.i64 0)) 3), type := 4, pos := "page.go:46", after := #[{ on := 5, ground := Ground.data }, { on := 4, ground := Ground.guard }], guard := (some (4, false)) } : Oper)) (v := ?_) rfl (by kernel_rfl) (by kernel_rfl) (by kernel_rfl) (fun _ _ _ h => h) (Or.inl ⟨by rfl, ?_⟩) hHeld ?_
            rotate_left
            · intro w_ hSw; (try dsimp only at hSw); go_simp; try (with_reducible rfl)
            try simp only [Act.put, List.setIfInBounds_toArray, List.set_cons_zero, List.set_cons_succ]
            refine wpAnyH_take (i := 7) (oi := ({ dst := (some 20), op := (Op.move (Operand.tmp 19)), type := 4, pos := "page.go:46", after := #[{ on := 6, ground := Ground.data }, { on := 4, ground := Ground.chain }, { on := 4, ground := Ground.guard }], guard := (some (4, false)) } : Oper)) (v := ?_) rfl (by kernel_rfl) (by kernel_rfl) (by kernel_rfl) (fun _ _ _ h => h) (Or.inl ⟨by rfl, ?_⟩) hHeld ?_
            rotate_left
            · intro w_ hSw; (try dsimp only at hSw); go_simp; try (with_reducible rfl)
            try simp only [Act.put, List.setIfInBounds_toArray, List.set_cons_zero, List.set_cons_succ]
            refine wpAnyH_take (i := 8) (oi := ({ dst := (some 21), op := (Op.fieldAddr 66 (Operand.tmp 4) 0), type := 0, pos := "page.go:46", after := #[{ on := 7, ground := Ground.guard }], guard := (some (7, true)) } : Oper)) (v := _) rfl (by kernel_rfl) (by kernel_rfl) (by kernel_rfl) (fun _ _ _ h => h) (Or.inr ⟨by rfl, rfl⟩) hHeld ?_
            try simp only [Act.put, List.setIfInBounds_toArray, List.set_cons_zero, List.set_cons_succ]
            refine wpAnyH_take (i := 9) (oi := ({ dst := (some 22), op := (Op.load 9 (Operand.tmp 21)), type := 9, pos := "page.go:46", after := #[{ on := 8, ground := Ground.data }, { on := 7, ground := Ground.guard }], guard := (some (7, true)) } : Oper)) (v := _) rfl (by kernel_rfl) (by kernel_rfl) (by kernel_rfl) (fun _ _ _ h => h) (Or.inr ⟨by rfl, rfl⟩) hHeld ?_
            try simp only [Act.put, List.setIfInBounds_toArray, List.set_cons_zero, List.set_cons_succ]
            refine wpAnyH_take (i := 10) (oi := ({ dst := (some 23), op := (Op.fieldAddr 113 (Operand.tmp 1) 1), type := 0, pos := "page.go:46", after := #[{ on := 7, ground := Ground.guard }], guard := (some (7, true)) } : Oper)) (v := _) rfl (by kernel_rfl) (by kernel_rfl) (by kernel_rfl) (fun _ _ _ h => h) (Or.inr ⟨by rfl, rfl⟩) hHeld ?_
            try simp only [Act.put, List.setIfInBounds_toArray, List.set_cons_zero, List.set_cons_succ]
            refine wpAnyH_take (i := 11) (oi := ({ dst := (some 24), op := (Op.load 25 (Operand.tmp 23)), type := 25, pos := "page.go:46", after := #[{ on := 10, ground := Ground.data }, { on := 7, ground := Ground.guard }], guard := (some (7, true)) } : Oper)) (v := _) rfl (by kernel_rfl) (by kernel_rfl) (by kernel_rfl) (fun _ _ _ h => h) (Or.inr ⟨by rfl, rfl⟩) hHeld ?_
            try simp only [Act.put, List.setIfInBounds_toArray, List.set_cons_zero, List.set_cons_succ]
            refine wpAnyH_take (i := 12) (oi := ({ dst := (some 25), op := (Op.move (Operand.tmp 3)), type := 3, pos := "page.go:46", after := #[{ on := 7, ground := Ground.guard }], guard := (some (7, true)) } : Oper)) (v := _) rfl (by kernel_rfl) (by kernel_rfl) (by kernel_rfl) (fun _ _ _ h => h) (Or.inr ⟨by rfl, rfl⟩) hHeld ?_
            try simp only [Act.put, List.setIfInBounds_toArray, List.set_cons_zero, List.set_cons_succ]
            refine wpAnyH_take (i := 13) (oi := ({ dst := (some 26), op := (Op.binOp BinOp.sub 3 (Operand.tmp 25) (Operand.const (Value.int IntKind.i64 1)) 3), type := 3, pos := "page.go:46", after := #[{ on := 12, ground := Ground.data }, { on := 7, ground := Ground.guard }], guard := (some (7, true)) } : Oper)) (v := _) rfl (by kernel_rfl) (by kernel_rfl) (by kernel_rfl) (fun _ _ _ h => h) (Or.inr ⟨by rfl, rfl⟩) hHeld ?_
            try simp only [Act.put, List.setIfInBounds_toArray, List.set_cons_zero, List.set_cons_succ]
            refine wpAnyH_take (i := 14) (oi := ({ dst := (some 27), op := (Op.indexAddr 25 (Operand.tmp 24) (Operand.tmp 26)), type := 0, pos := "page.go:46", after := #[{ on := 11, ground := Ground.data }, { on := 13, ground := Ground.data }, { on := 7, ground := Ground.guard }], guard := (some (7, true)) } : Oper)) (v := _) rfl (by kernel_rfl) (by kernel_rfl) (by kernel_rfl) (fun _ _ _ h => h) (Or.inr ⟨by rfl, rfl⟩) hHeld ?_
            try simp only [Act.put, List.setIfInBounds_toArray, List.set_cons_zero, List.set_cons_succ]
            refine wpAnyH_take (i := 15) (oi := ({ dst := (some 28), op := (Op.fieldAddr 66 (Operand.tmp 27) 0), type := 0, pos := "page.go:46", after := #[{ on := 14, ground := Ground.data }, { on := 7, ground := Ground.guard }], guard := (some (7, true)) } : Oper)) (v := _) rfl (by kernel_rfl) (by kernel_rfl) (by kernel_rfl) (fun _ _ _ h => h) (Or.inr ⟨by rfl, rfl⟩) hHeld ?_
            try simp only [Act.put, List.setIfInBounds_toArray, List.set_cons_zero, List.set_cons_succ]
            refine wpAnyH_take (i := 16) (oi := ({ dst := (some 29), op := (Op.load 9 (Operand.tmp 28)), type := 9, pos := "page.go:46", after := #[{ on := 15, ground := Ground.data }, { on := 7, ground := Ground.guard }], guard := (some (7, true)) } : Oper)) (v := _) rfl (by kernel_rfl) (by kernel_rfl) (by kernel_rfl) (fun _ _ _ h => h) (Or.inr ⟨by rfl, rfl⟩) hHeld ?_
            try simp only [Act.put, List.setIfInBounds_toArray, List.set_cons_zero, List.set_cons_succ]
            refine wpAnyH_take (i := 17) (oi := ({ dst := (some 30), op := (Op.binOp BinOp.leq 9 (Operand.tmp 22) (Operand.tmp 29) 9), type := 4, pos := "page.go:46", after := #[{ on := 9, ground := Ground.data }, { on := 16, ground := Ground.data }, { on := 7, ground := Ground.guard }], guard := (some (7, true)) } : Oper)) (v := _) rfl (by kernel_rfl) (by kernel_rfl) (by kernel_rfl) (fun _ _ _ h => h) (Or.inr ⟨by rfl, rfl⟩) hHeld ?_
            try simp only [Act.put, List.setIfInBounds_toArray, List.set_cons_zero, List.set_cons_succ]
            refine wpAnyH_take (i := 18) (oi := ({ dst := (some 31), op := (Op.pick (Operand.tmp 20) (Operand.tmp 30) (Operand.const (Value.bool false))), type := 4, pos := "page.go:46", after := #[{ on := 7, ground := Ground.data }, { on := 17, ground := Ground.data }, { on := 4, ground := Ground.guard }], guard := (some (4, false)) } : Oper)) (v := ?_) rfl (by kernel_rfl) (by kernel_rfl) (by kernel_rfl) (fun _ _ _ h => h) (Or.inl ⟨by rfl, ?_⟩) hHeld ?_
            rotate_left
            · intro w_ hSw; (try dsimp only at hSw); go_simp; try (with_reducible rfl)
            try simp only [Act.put, List.setIfInBounds_toArray, List.set_cons_zero, List.set_cons_succ]
            refine wpAnyH_take (i := 19) (oi := ({ dst := (some 32), op := (Op.pick (Operand.tmp 17) (Operand.const (Value.bool true)) (Operand.tmp 31)), type := 4, pos := "page.go:46", after := #[{ on := 4, ground := Ground.data }, { on := 18, ground := Ground.data }], guard := none } : Oper)) (v := ?_) rfl (by kernel_rfl) (by kernel_rfl) (by kernel_rfl) (fun _ _ _ h => h) (Or.inl ⟨by rfl, ?_⟩) hHeld ?_
            rotate_left
            · intro w_ hSw; (try dsimp only at hSw); go_simp; try (with_reducible rfl)
            try simp only [Act.put, List.setIfInBounds_toArray, List.set_cons_zero, List.set_cons_succ]
            refine wpAnyH_take (i := 20) (oi := ({ dst := (some 33), op := (Op.move (Operand.tmp 32)), type := 4, pos := "page.go:46", after := #[{ on := 19, ground := Ground.data }, { on := 7, ground := Ground.chain }], guard := none } : Oper)) (v := ?_) rfl (by kernel_rfl) (by kernel_rfl) (by kernel_rfl) (fun _ _ _ h => h) (Or.inl ⟨by rfl, ?_⟩) hHeld ?_
            rotate_left
            · intro w_ hSw; (try dsimp only at hSw); go_simp; try (with_reducible rfl)
            try simp only [Act.put, List.setIfInBounds_toArray, List.set_cons_zero, List.set_cons_succ]
            refine wpAnyH_take (i := 21) (oi := ({ dst := (some 34), op := (Op.fieldAddr 66 (Operand.tmp 4) 2), type := 0, pos := "page.go:46", after := #[{ on := 20, ground := Ground.guard }], guard := (some (20, false)) } : Oper)) (v := ?_) rfl (by kernel_rfl) (by kernel_rfl) (by kernel_rfl) (fun _ _ _ h => h) (Or.inl ⟨by rfl, ?_⟩) hHeld ?_
            rotate_left
            · intro w_ hSw; (try dsimp only at hSw); go_simp; try (with_reducible rfl)
            try simp only [Act.put, List.setIfInBounds_toArray, List.set_cons_zero, List.set_cons_succ]
            refine wpAnyH_take (i := 22) (oi := ({ dst := (some 35), op := (Op.load 3 (Operand.tmp 34)), type := 3, pos := "page.go:46", after := #[{ on := 21, ground := Ground.data }, { on := 20, ground := Ground.guard }], guard := (some (20, false)) } : Oper)) (v := ?_) rfl (by kernel_rfl) (by kernel_rfl) (by kernel_rfl) (fun _ _ _ h => h) (Or.inl ⟨by rfl, ?_⟩) hHeld ?_
            rotate_left
            · intro w_ hSw; (try dsimp only at hSw); go_simp; try (with_reducible rfl)
            try simp only [Act.put, List.setIfInBounds_toArray, List.set_cons_zero, List.set_cons_succ]
            refine wpAnyH_take (i := 23) (oi := ({ dst := (some 36), op := (Op.binOp BinOp.lss 3 (Operand.tmp 35) (Operand.const (Value.int IntKind.i64 1)) 3), type := 4, pos := "page.go:46", after := #[{ on := 22, ground := Ground.data }, { on := 20, ground := Ground.guard }], guard := (some (20, false)) } : Oper)) (v := ?_) rfl (by kernel_rfl) (by kernel_rfl) (by kernel_rfl) (fun _ _ _ h => h) (Or.inl ⟨by rfl, ?_⟩) hHeld ?_
            rotate_left
            · intro w_ hSw; (try dsimp only at hSw); go_simp; try (with_reducible rfl)
            try simp only [Act.put, List.setIfInBounds_toArray, List.set_cons_zero, List.set_cons_succ]
            refine wpAnyH_take (i := 24) (oi := ({ dst := (some 37), op := (Op.pick (Operand.tmp 33) (Operand.const (Value.bool true)) (Operand.tmp 36)), type := 4, pos := "page.go:46", after := #[{ on := 20, ground := Ground.data }, { on := 23, ground := Ground.data }], guard := none } : Oper)) (v := ?_) rfl (by kernel_rfl) (by kernel_rfl) (by kernel_rfl) (fun _ _ _ h => h) (Or.inl ⟨by rfl, ?_⟩) hHeld ?_
            rotate_left
            · intro w_ hSw; (try dsimp only at hSw); go_simp; try (with_reducible rfl)
            try simp only [Act.put, List.setIfInBounds_toArray, List.set_cons_zero, List.set_cons_succ]
            refine wpAnyH_take (i := 25) (oi := ({ dst := (some 38), op := (Op.move (Operand.tmp 37)), type := 4, pos := "page.go:46", after := #[{ on := 24, ground := Ground.data }, { on := 20, ground := Ground.chain }], guard := none } : Oper)) (v := ?_) rfl (by kernel_rfl) (by kernel_rfl) (by kernel_rfl) (fun _ _ _ h => h) (Or.inl ⟨by rfl, ?_⟩) hHeld ?_
            rotate_left
            · intro w_ hSw; (try dsimp only at hSw); go_simp; try (with_reducible rfl)
            try simp only [Act.put, List.setIfInBounds_toArray, List.set_cons_zero, List.set_cons_succ]
            refine wpAnyH_take (i := 26) (oi := ({ dst := (some 39), op := (Op.fieldAddr 66 (Operand.tmp 4) 2), type := 0, pos := "page.go:46", after := #[{ on := 25, ground := Ground.guard }], guard := (some (25, false)) } : Oper)) (v := ?_) rfl (by kernel_rfl) (by kernel_rfl) (by kernel_rfl) (fun _ _ _ h => h) (Or.inl ⟨by rfl, ?_⟩) hHeld ?_
            rotate_left
            · intro w_ hSw; (try dsimp only at hSw); go_simp; try (with_reducible rfl)
            try simp only [Act.put, List.setIfInBounds_toArray, List.set_cons_zero, List.set_cons_succ]
            refine wpAnyH_take (i := 27) (oi := ({ dst := (some 40), op := (Op.load 3 (Operand.tmp 39)), type := 3, pos := "page.go:46", after := #[{ on := 26, ground := Ground.data }, { on := 25, ground := Ground.guard }], guard := (some (25, false)) } : Oper)) (v := ?_) rfl (by kernel_rfl) (by kernel_rfl) (by kernel_rfl) (fun _ _ _ h => h) (Or.inl ⟨by rfl, ?_⟩) hHeld ?_
            rotate_left
            · intro w_ hSw; (try dsimp only at hSw); go_simp; try (with_reducible rfl)
            try simp only [Act.put, List.setIfInBounds_toArray, List.set_cons_zero, List.set_cons_succ]
            refine wpAnyH_take (i := 28) (oi := ({ dst := (some 41), op := (Op.binOp BinOp.gtr 3 (Operand.tmp 40) (Operand.const (Value.int IntKind.i64 65536)) 3), type := 4, pos := "page.go:46", after := #[{ on := 27, ground := Ground.data }, { on := 25, ground := Ground.guard }], guard := (some (25, false)) } : Oper)) (v := ?_) rfl (by kernel_rfl) (by kernel_rfl) (by kernel_rfl) (fun _ _ _ h => h) (Or.inl ⟨by rfl, ?_⟩) hHeld ?_
            rotate_left
            · intro w_ hSw; (try dsimp only at hSw); go_simp; try (with_reducible rfl)
            try simp only [Act.put, List.setIfInBounds_toArray, List.set_cons_zero, List.set_cons_succ]
            refine wpAnyH_take (i := 29) (oi := ({ dst := (some 42), op := (Op.pick (Operand.tmp 38) (Operand.const (Value.bool true)) (Operand.tmp 41)), type := 4, pos := "page.go:46", after := #[{ on := 25, ground := Ground.data }, { on := 28, ground := Ground.data }], guard := none } : Oper)) (v := ?_) rfl (by kernel_rfl) (by kernel_rfl) (by kernel_rfl) (fun _ _ _ h => h) (Or.inl ⟨by rfl, ?_⟩) hHeld ?_
            rotate_left
            · intro w_ hSw; (try dsimp only at hSw); go_simp; try (with_reducible rfl)
            try simp only [Act.put, List.setIfInBounds_toArray, List.set_cons_zero, List.set_cons_succ]
            refine wpAnyH_done (by kernel_rfl) ?_ _
            go_wp2_with fail
            go_ret
            exact ⟨by rw [HBAD.out (by rw [HPD.out] <;> (simp [*] <;> omega))]; rfl, HP.out.below⟩
          · have n2 : decide (65536 < y.f2) = false := decide_eq_false cm
            have n4 : y.f2 ≤ 65536 := by omega
            clear cm
            refine held_named (S := (fun w' => w'.cell? ⟨gx, 0, none⟩ = some (.string y.f0) ∧ w'.cell? ⟨gx, 33, none⟩ = some (.int .i64 y.f2))) (by kernel_rfl) (fun wd6 hwd6 => ?_)
            have HPn := Aside0.mk (HP.out.drewN 1)
            rw [← World.drew_is_drewN, hwd6] at HPn
            clear HP hwd6
            have HP := HPn
            clear HPn
            refine ⟨by (try dsimp only); exact ⟨cell_f (HP.out.blk 0 rfl), cell_n (HP.out.blk 0 rfl)⟩, fun hHeld => ?_⟩
            refine wpAnyH_take (i := 0) (oi := ({ dst := (some 13), op := (Op.fieldAddr 66 (Operand.tmp 4) 0), type := 0, pos := "page.go:46", after := #[], guard := none } : Oper)) (v := ?_) rfl (by kernel_rfl) (by kernel_rfl) (by kernel_rfl) (fun _ _ _ h => h) (Or.inl ⟨by rfl, ?_⟩) hHeld ?_
            rotate_left
            · intro w_ hSw; (try dsimp only at hSw); go_simp; try (with_reducible rfl)
            try simp only [Act.put, List.setIfInBounds_toArray, List.set_cons_zero, List.set_cons_succ]
            refine wpAnyH_take (i := 1) (oi := ({ dst := (some 14), op := (Op.load 9 (Operand.tmp 13)), type := 9, pos := "page.go:46", after := #[{ on := 0, ground := Ground.data }], guard := none } : Oper)) (v := ?_) rfl (by kernel_rfl) (by kernel_rfl) (by kernel_rfl) (fun _ _ _ h => h) (Or.inl ⟨by rfl, ?_⟩) hHeld ?_
            rotate_left
            · intro w_ hSw; (try dsimp only at hSw); go_simp; try (with_reducible rfl)
            try simp only [Act.put, List.setIfInBounds_toArray, List.set_cons_zero, List.set_cons_succ]
            refine wpAnyH_ready (rs := [2]) (by kernel_rfl) (by simp) ?_
            refine AllReadyH.cons (o := ({ dst := (some 15), op := (Op.call { callee := (Callee.value (Operand.func 60)), args := #[(Operand.tmp 14)], argTypes := #[9] }), type := 4, pos := "page.go:46", after := #[{ on := 1, ground := Ground.data }], guard := none } : Oper)) rfl (fun K hK => ?_) AllReadyH.nil
            go_simp
            go_at_call 60; refine (c_key _ _).mono ?_; rintro e w_ ⟨rfl, rfl⟩; (try rw [hkey])
            go_wp2_with fail
            clear hHeld
            refine hK.out _ _ ?_ (fun hHeld => ?_)
            · (try dsimp only); exact ⟨cell_f (HP.out.blk 0 rfl), cell_n (HP.out.blk 0 rfl)⟩
            clear hK K
            try simp only [Act.put, List.setIfInBounds_toArray, List.set_cons_zero, List.set_cons_succ]
            refine wpAnyH_take (i := 3) (oi := ({ dst := (some 16), op := (Op.unOp UnOp.not 4 (Operand.tmp 15)), type := 4, pos := "page.go:46", after := #[{ on := 2, ground := Ground.data }], guard := none } : Oper)) (v := ?_) rfl (by kernel_rfl) (by kernel_rfl) (by kernel_rfl) (fun _ _ _ h => h) (Or.inl ⟨by rfl, ?_⟩) hHeld ?_
            rotate_left
            · intro w_ hSw; (try dsimp only at hSw); go_simp; try (with_reducible rfl)
            try simp only [Act.put, List.setIfInBounds_toArray, List.set_cons_zero, List.set_cons_succ]
            refine wpAnyH_take (i := 4) (oi := ({ dst := (some 17), op := (Op.move (Operand.tmp 16)), type := 4, pos := "page.go:46", after := #[{ on := 3, ground := Ground.data }, { on := 2, ground := Ground.chain }], guard := none } : Oper)) (v := ?_) rfl (by kernel_rfl) (by kernel_rfl) (by kernel_rfl) (fun _ _ _ h => h) (Or.inl ⟨by rfl, ?_⟩) hHeld ?_
            rotate_left
            · intro w_ hSw; (try dsimp only at hSw); go_simp; try (with_reducible rfl)
            try simp only [Act.put, List.setIfInBounds_toArray, List.set_cons_zero, List.set_cons_succ]
            refine wpAnyH_take (i := 5) (oi := ({ dst := (some 18), op := (Op.move (Operand.tmp 3)), type := 3, pos := "page.go:46", after := #[{ on := 4, ground := Ground.guard }], guard := (some (4, false)) } : Oper)) (v := ?_) rfl (by kernel_rfl) (by kernel_rfl) (by kernel_rfl) (fun _ _ _ h => h) (Or.inl ⟨by rfl, ?_⟩) hHeld ?_
            rotate_left
            · intro w_ hSw; (try dsimp only at hSw); go_simp; try (with_reducible rfl)
            try simp only [Act.put, List.setIfInBounds_toArray, List.set_cons_zero, List.set_cons_succ]
            refine wpAnyH_take (i := 6) (oi := ({ dst := (some 19), op := (Op.binOp BinOp.gtr 3 (Operand.tmp 18) (Operand.const (Value.int IntKind.i64 0)) 3), type := 4, pos := "page.go:46", after := #[{ on := 5, ground := Ground.data }, { on := 4, ground := Ground.guard }], guard := (some (4, false)) } : Oper)) (v := ?_) rfl (by kernel_rfl) (by kernel_rfl) (by kernel_rfl) (fun _ _ _ h => h) (Or.inl ⟨by rfl, ?_⟩) hHeld ?_
            rotate_left
            · intro w_ hSw; (try dsimp only at hSw); go_simp; try (with_reducible rfl)
            try simp only [Act.put, List.setIfInBounds_toArray, List.set_cons_zero, List.set_cons_succ]
            refine wpAnyH_take (i := 7) (oi := ({ dst := (some 20), op := (Op.move (Operand.tmp 19)), type := 4, pos := "page.go:46", after := #[{ on := 6, ground := Ground.data }, { on := 4, ground := Ground.chain }, { on := 4, ground := Ground.guard }], guard := (some (4, false)) } : Oper)) (v := ?_) rfl (by kernel_rfl) (by kernel_rfl) (by kernel_rfl) (fun _ _ _ h => h) (Or.inl ⟨by rfl, ?_⟩) hHeld ?_
            rotate_left
            · intro w_ hSw; (try dsimp only at hSw); go_simp; try (with_reducible rfl)
            try simp only [Act.put, List.setIfInBounds_toArray, List.set_cons_zero, List.set_cons_succ]
            refine wpAnyH_take (i := 8) (oi := ({ dst := (some 21), op := (Op.fieldAddr 66 (Operand.tmp 4) 0), type := 0, pos := "page.go:46", after := #[{ on := 7, ground := Ground.guard }], guard := (some (7, true)) } : Oper)) (v := _) rfl (by kernel_rfl) (by kernel_rfl) (by kernel_rfl) (fun _ _ _ h => h) (Or.inr ⟨by rfl, rfl⟩) hHeld ?_
            try simp only [Act.put, List.setIfInBounds_toArray, List.set_cons_zero, List.set_cons_succ]
            refine wpAnyH_take (i := 9) (oi := ({ dst := (some 22), op := (Op.load 9 (Operand.tmp 21)), type := 9, pos := "page.go:46", after := #[{ on := 8, ground := Ground.data }, { on := 7, ground := Ground.guard }], guard := (some (7, true)) } : Oper)) (v := _) rfl (by kernel_rfl) (by kernel_rfl) (by kernel_rfl) (fun _ _ _ h => h) (Or.inr ⟨by rfl, rfl⟩) hHeld ?_
            try simp only [Act.put, List.setIfInBounds_toArray, List.set_cons_zero, List.set_cons_succ]
            refine wpAnyH_take (i := 10) (oi := ({ dst := (some 23), op := (Op.fieldAddr 113 (Operand.tmp 1) 1), type := 0, pos := "page.go:46", after := #[{ on := 7, ground := Ground.guard }], guard := (some (7, true)) } : Oper)) (v := _) rfl (by kernel_rfl) (by kernel_rfl) (by kernel_rfl) (fun _ _ _ h => h) (Or.inr ⟨by rfl, rfl⟩) hHeld ?_
            try simp only [Act.put, List.setIfInBounds_toArray, List.set_cons_zero, List.set_cons_succ]
            refine wpAnyH_take (i := 11) (oi := ({ dst := (some 24), op := (Op.load 25 (Operand.tmp 23)), type := 25, pos := "page.go:46", after := #[{ on := 10, ground := Ground.data }, { on := 7, ground := Ground.guard }], guard := (some (7, true)) } : Oper)) (v := _) rfl (by kernel_rfl) (by kernel_rfl) (by kernel_rfl) (fun _ _ _ h => h) (Or.inr ⟨by rfl, rfl⟩) hHeld ?_
            try simp only [Act.put, List.setIfInBounds_toArray, List.set_cons_zero, List.set_cons_succ]
            refine wpAnyH_take (i := 12) (oi := ({ dst := (some 25), op := (Op.move (Operand.tmp 3)), type := 3, pos := "page.go:46", after := #[{ on := 7, ground := Ground.guard }], guard := (some (7, true)) } : Oper)) (v := _) rfl (by kernel_rfl) (by kernel_rfl) (by kernel_rfl) (fun _ _ _ h => h) (Or.inr ⟨by rfl, rfl⟩) hHeld ?_
            try simp only [Act.put, List.setIfInBounds_toArray, List.set_cons_zero, List.set_cons_succ]
            refine wpAnyH_take (i := 13) (oi := ({ dst := (some 26), op := (Op.binOp BinOp.sub 3 (Operand.tmp 25) (Operand.const (Value.int IntKind.i64 1)) 3), type := 3, pos := "page.go:46", after := #[{ on := 12, ground := Ground.data }, { on := 7, ground := Ground.guard }], guard := (some (7, true)) } : Oper)) (v := _) rfl (by kernel_rfl) (by kernel_rfl) (by kernel_rfl) (fun _ _ _ h => h) (Or.inr ⟨by rfl, rfl⟩) hHeld ?_
            try simp only [Act.put, List.setIfInBounds_toArray, List.set_cons_zero, List.set_cons_succ]
            refine wpAnyH_take (i := 14) (oi := ({ dst := (some 27), op := (Op.indexAddr 25 (Operand.tmp 24) (Operand.tmp 26)), type := 0, pos := "page.go:46", after := #[{ on := 11, ground := Ground.data }, { on := 13, ground := Ground.data }, { on := 7, ground := Ground.guard }], guard := (some (7, true)) } : Oper)) (v := _) rfl (by kernel_rfl) (by kernel_rfl) (by kernel_rfl) (fun _ _ _ h => h) (Or.inr ⟨by rfl, rfl⟩) hHeld ?_
            try simp only [Act.put, List.setIfInBounds_toArray, List.set_cons_zero, List.set_cons_succ]
            refine wpAnyH_take (i := 15) (oi := ({ dst := (some 28), op := (Op.fieldAddr 66 (Operand.tmp 27) 0), type := 0, pos := "page.go:46", after := #[{ on := 14, ground := Ground.data }, { on := 7, ground := Ground.guard }], guard := (some (7, true)) } : Oper)) (v := _) rfl (by kernel_rfl) (by kernel_rfl) (by kernel_rfl) (fun _ _ _ h => h) (Or.inr ⟨by rfl, rfl⟩) hHeld ?_
            try simp only [Act.put, List.setIfInBounds_toArray, List.set_cons_zero, List.set_cons_succ]
            refine wpAnyH_take (i := 16) (oi := ({ dst := (some 29), op := (Op.load 9 (Operand.tmp 28)), type := 9, pos := "page.go:46", after := #[{ on := 15, ground := Ground.data }, { on := 7, ground := Ground.guard }], guard := (some (7, true)) } : Oper)) (v := _) rfl (by kernel_rfl) (by kernel_rfl) (by kernel_rfl) (fun _ _ _ h => h) (Or.inr ⟨by rfl, rfl⟩) hHeld ?_
            try simp only [Act.put, List.setIfInBounds_toArray, List.set_cons_zero, List.set_cons_succ]
            refine wpAnyH_take (i := 17) (oi := ({ dst := (some 30), op := (Op.binOp BinOp.leq 9 (Operand.tmp 22) (Operand.tmp 29) 9), type := 4, pos := "page.go:46", after := #[{ on := 9, ground := Ground.data }, { on := 16, ground := Ground.data }, { on := 7, ground := Ground.guard }], guard := (some (7, true)) } : Oper)) (v := _) rfl (by kernel_rfl) (by kernel_rfl) (by kernel_rfl) (fun _ _ _ h => h) (Or.inr ⟨by rfl, rfl⟩) hHeld ?_
            try simp only [Act.put, List.setIfInBounds_toArray, List.set_cons_zero, List.set_cons_succ]
            refine wpAnyH_take (i := 18) (oi := ({ dst := (some 31), op := (Op.pick (Operand.tmp 20) (Operand.tmp 30) (Operand.const (Value.bool false))), type := 4, pos := "page.go:46", after := #[{ on := 7, ground := Ground.data }, { on := 17, ground := Ground.data }, { on := 4, ground := Ground.guard }], guard := (some (4, false)) } : Oper)) (v := ?_) rfl (by kernel_rfl) (by kernel_rfl) (by kernel_rfl) (fun _ _ _ h => h) (Or.inl ⟨by rfl, ?_⟩) hHeld ?_
            rotate_left
            · intro w_ hSw; (try dsimp only at hSw); go_simp; try (with_reducible rfl)
            try simp only [Act.put, List.setIfInBounds_toArray, List.set_cons_zero, List.set_cons_succ]
            refine wpAnyH_take (i := 19) (oi := ({ dst := (some 32), op := (Op.pick (Operand.tmp 17) (Operand.const (Value.bool true)) (Operand.tmp 31)), type := 4, pos := "page.go:46", after := #[{ on := 4, ground := Ground.data }, { on := 18, ground := Ground.data }], guard := none } : Oper)) (v := ?_) rfl (by kernel_rfl) (by kernel_rfl) (by kernel_rfl) (fun _ _ _ h => h) (Or.inl ⟨by rfl, ?_⟩) hHeld ?_
            rotate_left
            · intro w_ hSw; (try dsimp only at hSw); go_simp; try (with_reducible rfl)
            try simp only [Act.put, List.setIfInBounds_toArray, List.set_cons_zero, List.set_cons_succ]
            refine wpAnyH_take (i := 20) (oi := ({ dst := (some 33), op := (Op.move (Operand.tmp 32)), type := 4, pos := "page.go:46", after := #[{ on := 19, ground := Ground.data }, { on := 7, ground := Ground.chain }], guard := none } : Oper)) (v := ?_) rfl (by kernel_rfl) (by kernel_rfl) (by kernel_rfl) (fun _ _ _ h => h) (Or.inl ⟨by rfl, ?_⟩) hHeld ?_
            rotate_left
            · intro w_ hSw; (try dsimp only at hSw); go_simp; try (with_reducible rfl)
            try simp only [Act.put, List.setIfInBounds_toArray, List.set_cons_zero, List.set_cons_succ]
            refine wpAnyH_take (i := 21) (oi := ({ dst := (some 34), op := (Op.fieldAddr 66 (Operand.tmp 4) 2), type := 0, pos := "page.go:46", after := #[{ on := 20, ground := Ground.guard }], guard := (some (20, false)) } : Oper)) (v := ?_) rfl (by kernel_rfl) (by kernel_rfl) (by kernel_rfl) (fun _ _ _ h => h) (Or.inl ⟨by rfl, ?_⟩) hHeld ?_
            rotate_left
            · intro w_ hSw; (try dsimp only at hSw); go_simp; try (with_reducible rfl)
            try simp only [Act.put, List.setIfInBounds_toArray, List.set_cons_zero, List.set_cons_succ]
            refine wpAnyH_take (i := 22) (oi := ({ dst := (some 35), op := (Op.load 3 (Operand.tmp 34)), type := 3, pos := "page.go:46", after := #[{ on := 21, ground := Ground.data }, { on := 20, ground := Ground.guard }], guard := (some (20, false)) } : Oper)) (v := ?_) rfl (by kernel_rfl) (by kernel_rfl) (by kernel_rfl) (fun _ _ _ h => h) (Or.inl ⟨by rfl, ?_⟩) hHeld ?_
            rotate_left
            · intro w_ hSw; (try dsimp only at hSw); go_simp; try (with_reducible rfl)
            try simp only [Act.put, List.setIfInBounds_toArray, List.set_cons_zero, List.set_cons_succ]
            refine wpAnyH_take (i := 23) (oi := ({ dst := (some 36), op := (Op.binOp BinOp.lss 3 (Operand.tmp 35) (Operand.const (Value.int IntKind.i64 1)) 3), type := 4, pos := "page.go:46", after := #[{ on := 22, ground := Ground.data }, { on := 20, ground := Ground.guard }], guard := (some (20, false)) } : Oper)) (v := ?_) rfl (by kernel_rfl) (by kernel_rfl) (by kernel_rfl) (fun _ _ _ h => h) (Or.inl ⟨by rfl, ?_⟩) hHeld ?_
            rotate_left
            · intro w_ hSw; (try dsimp only at hSw); go_simp; try (with_reducible rfl)
            try simp only [Act.put, List.setIfInBounds_toArray, List.set_cons_zero, List.set_cons_succ]
            refine wpAnyH_take (i := 24) (oi := ({ dst := (some 37), op := (Op.pick (Operand.tmp 33) (Operand.const (Value.bool true)) (Operand.tmp 36)), type := 4, pos := "page.go:46", after := #[{ on := 20, ground := Ground.data }, { on := 23, ground := Ground.data }], guard := none } : Oper)) (v := ?_) rfl (by kernel_rfl) (by kernel_rfl) (by kernel_rfl) (fun _ _ _ h => h) (Or.inl ⟨by rfl, ?_⟩) hHeld ?_
            rotate_left
            · intro w_ hSw; (try dsimp only at hSw); go_simp; try (with_reducible rfl)
            try simp only [Act.put, List.setIfInBounds_toArray, List.set_cons_zero, List.set_cons_succ]
            refine wpAnyH_take (i := 25) (oi := ({ dst := (some 38), op := (Op.move (Operand.tmp 37)), type := 4, pos := "page.go:46", after := #[{ on := 24, ground := Ground.data }, { on := 20, ground := Ground.chain }], guard := none } : Oper)) (v := ?_) rfl (by kernel_rfl) (by kernel_rfl) (by kernel_rfl) (fun _ _ _ h => h) (Or.inl ⟨by rfl, ?_⟩) hHeld ?_
            rotate_left
            · intro w_ hSw; (try dsimp only at hSw); go_simp; try (with_reducible rfl)
            try simp only [Act.put, List.setIfInBounds_toArray, List.set_cons_zero, List.set_cons_succ]
            refine wpAnyH_take (i := 26) (oi := ({ dst := (some 39), op := (Op.fieldAddr 66 (Operand.tmp 4) 2), type := 0, pos := "page.go:46", after := #[{ on := 25, ground := Ground.guard }], guard := (some (25, false)) } : Oper)) (v := ?_) rfl (by kernel_rfl) (by kernel_rfl) (by kernel_rfl) (fun _ _ _ h => h) (Or.inl ⟨by rfl, ?_⟩) hHeld ?_
            rotate_left
            · intro w_ hSw; (try dsimp only at hSw); go_simp; try (with_reducible rfl)
            try simp only [Act.put, List.setIfInBounds_toArray, List.set_cons_zero, List.set_cons_succ]
            refine wpAnyH_take (i := 27) (oi := ({ dst := (some 40), op := (Op.load 3 (Operand.tmp 39)), type := 3, pos := "page.go:46", after := #[{ on := 26, ground := Ground.data }, { on := 25, ground := Ground.guard }], guard := (some (25, false)) } : Oper)) (v := ?_) rfl (by kernel_rfl) (by kernel_rfl) (by kernel_rfl) (fun _ _ _ h => h) (Or.inl ⟨by rfl, ?_⟩) hHeld ?_
            rotate_left
            · intro w_ hSw; (try dsimp only at hSw); go_simp; try (with_reducible rfl)
            try simp only [Act.put, List.setIfInBounds_toArray, List.set_cons_zero, List.set_cons_succ]
            refine wpAnyH_take (i := 28) (oi := ({ dst := (some 41), op := (Op.binOp BinOp.gtr 3 (Operand.tmp 40) (Operand.const (Value.int IntKind.i64 65536)) 3), type := 4, pos := "page.go:46", after := #[{ on := 27, ground := Ground.data }, { on := 25, ground := Ground.guard }], guard := (some (25, false)) } : Oper)) (v := ?_) rfl (by kernel_rfl) (by kernel_rfl) (by kernel_rfl) (fun _ _ _ h => h) (Or.inl ⟨by rfl, ?_⟩) hHeld ?_
            rotate_left
            · intro w_ hSw; (try dsimp only at hSw); go_simp; try (with_reducible rfl)
            try simp only [Act.put, List.setIfInBounds_toArray, List.set_cons_zero, List.set_cons_succ]
            refine wpAnyH_take (i := 29) (oi := ({ dst := (some 42), op := (Op.pick (Operand.tmp 38) (Operand.const (Value.bool true)) (Operand.tmp 41)), type := 4, pos := "page.go:46", after := #[{ on := 25, ground := Ground.data }, { on := 28, ground := Ground.data }], guard := none } : Oper)) (v := ?_) rfl (by kernel_rfl) (by kernel_rfl) (by kernel_rfl) (fun _ _ _ h => h) (Or.inl ⟨by rfl, ?_⟩) hHeld ?_
            rotate_left
            · intro w_ hSw; (try dsimp only at hSw); go_simp; try (with_reducible rfl)
            try simp only [Act.put, List.setIfInBounds_toArray, List.set_cons_zero, List.set_cons_succ]
            refine wpAnyH_done (by kernel_rfl) ?_ _
            go_wp2_with fail
            have HPn := Aside0.mk HP.out.drop1
            clear HP
            go_roundg (gk - 1)
            case measure => have := HK.out; have := (List.getElem?_eq_some_iff.1 HY.out).1; omega
            case rel => exact ⟨j + 1, x + 1, rfl, ⟨by have := HX.out; omega⟩, ⟨by have := HK.out; have := (List.getElem?_eq_some_iff.1 HY.out).1; omega⟩, ⟨by rw [linksTo_succ, HG.out, HYD.out, HPD.out]; simp [*]⟩, HPn⟩
      · have c0b : decide (0 < x) = true := decide_eq_true (by omega)
        have ex2 : IntKind.i64.wrap (x - 1) = x - 1 := IntWalk.i64_in _ (by omega)
        have p3 : 1 ≤ x := by omega
        have q3 : x - 1 < (l.length : Int) := by omega
        obtain ⟨p, hp⟩ : ∃ p, l[j - 1]? = some p := ⟨_, List.getElem?_eq_getElem (by omega)⟩
        obtain ⟨cs, hcs, hra⟩ := range_K HR.out hp
        have hcs2 := k66_open hcs
        subst hcs2
        have hxt : x.toNat - 1 = j - 1 := by omega
        have HPV := Aside0.mk (fun w' (hb : Below w.heap.size w w') => (show w'.cell? ⟨Ab, Ao + (x.toNat - 1) * 34, none⟩ = some (.string p.f0) from by
          have h0 := hra 0 _ rfl
          rw [hxt]
          exact (hb.cell (World.block_lt_of_cell? w _ h0)).trans h0))
        have HPD := Aside0.mk (show linkAt l j y = (keyOk y.f0 && (decide (j = 0) || Op.bytesLess p.f0.toList y.f0.toList) && decide (1 ≤ y.f2) && decide (y.f2 ≤ 65536)) from by unfold linkAt; rw [show l.getD (j - 1) z66 = p from by rw [List.getD_eq_getElem?_getD, hp]; rfl])
        clear hp hcs hra hxt hx c1
        cases hbl : Op.bytesLess p.f0.toList y.f0.toList with
        | true =>
          have hle : (Op.bytesLess y.f0.toList p.f0.toList || y.f0.toList == p.f0.toList) = false := by rw [less_tri, Bool.not_eq_true'] at hbl; exact hbl
          by_cases cn : y.f2 < 1
          · have n1 : decide (y.f2 < 1) = true := decide_eq_true cn
            have n3 : ¬ (1 ≤ y.f2) := by omega
            clear cn
            refine held_named (S := (fun w' => w'.cell? ⟨gx, 0, none⟩ = some (.string y.f0) ∧ w'.cell? ⟨gx, 33, none⟩ = some (.int .i64 y.f2) ∧ w'.cell? ⟨g1, 1, none⟩ = some (.slice (some ⟨Ab, Ao, none⟩) l.length c) ∧ w'.cell? ⟨Ab, Ao + (x.toNat - 1) * 34, none⟩ = some (.string p.f0))) (by kernel_rfl) (fun wd6 hwd6 => ?_)
            have HPn := Aside0.mk (HP.out.drewN 1)
            rw [← World.drew_is_drewN, hwd6] at HPn
            clear HP hwd6
            have HP := HPn
            clear HPn
            refine ⟨by (try dsimp only); exact ⟨cell_f (HP.out.blk 0 rfl), cell_n (HP.out.blk 0 rfl), blk_cell (HP.out.blk 1 rfl) 1, HPV.out _ HP.out.below⟩, fun hHeld => ?_⟩
            refine wpAnyH_take (i := 0) (oi := ({ dst := (some 13), op := (Op.fieldAddr 66 (Operand.tmp 4) 0), type := 0, pos := "page.go:46", after := #[], guard := none } : Oper)) (v := ?_) rfl (by kernel_rfl) (by kernel_rfl) (by kernel_rfl) (fun _ _ _ h => h) (Or.inl ⟨by rfl, ?_⟩) hHeld ?_
            rotate_left
            · intro w_ hSw; (try dsimp only at hSw); go_simp; try (with_reducible rfl)
            try simp only [Act.put, List.setIfInBounds_toArray, List.set_cons_zero, List.set_cons_succ]
            refine wpAnyH_take (i := 1) (oi := ({ dst := (some 14), op := (Op.load 9 (Operand.tmp 13)), type := 9, pos := "page.go:46", after := #[{ on := 0, ground := Ground.data }], guard := none } : Oper)) (v := ?_) rfl (by kernel_rfl) (by kernel_rfl) (by kernel_rfl) (fun _ _ _ h => h) (Or.inl ⟨by rfl, ?_⟩) hHeld ?_
            rotate_left
            · intro w_ hSw; (try dsimp only at hSw); go_simp; try (with_reducible rfl)
            try simp only [Act.put, List.setIfInBounds_toArray, List.set_cons_zero, List.set_cons_succ]
            refine wpAnyH_ready (rs := [2]) (by kernel_rfl) (by simp) ?_
            refine AllReadyH.cons (o := ({ dst := (some 15), op := (Op.call { callee := (Callee.value (Operand.func 60)), args := #[(Operand.tmp 14)], argTypes := #[9] }), type := 4, pos := "page.go:46", after := #[{ on := 1, ground := Ground.data }], guard := none } : Oper)) rfl (fun K hK => ?_) AllReadyH.nil
            go_simp
            go_at_call 60; refine (c_key _ _).mono ?_; rintro e w_ ⟨rfl, rfl⟩; (try rw [hkey])
            go_wp2_with fail
            clear hHeld
            refine hK.out _ _ ?_ (fun hHeld => ?_)
            · (try dsimp only); exact ⟨cell_f (HP.out.blk 0 rfl), cell_n (HP.out.blk 0 rfl), blk_cell (HP.out.blk 1 rfl) 1, HPV.out _ HP.out.below⟩
            clear hK K
            try simp only [Act.put, List.setIfInBounds_toArray, List.set_cons_zero, List.set_cons_succ]
            refine wpAnyH_take (i := 3) (oi := ({ dst := (some 16), op := (Op.unOp UnOp.not 4 (Operand.tmp 15)), type := 4, pos := "page.go:46", after := #[{ on := 2, ground := Ground.data }], guard := none } : Oper)) (v := ?_) rfl (by kernel_rfl) (by kernel_rfl) (by kernel_rfl) (fun _ _ _ h => h) (Or.inl ⟨by rfl, ?_⟩) hHeld ?_
            rotate_left
            · intro w_ hSw; (try dsimp only at hSw); go_simp; try (with_reducible rfl)
            try simp only [Act.put, List.setIfInBounds_toArray, List.set_cons_zero, List.set_cons_succ]
            refine wpAnyH_take (i := 4) (oi := ({ dst := (some 17), op := (Op.move (Operand.tmp 16)), type := 4, pos := "page.go:46", after := #[{ on := 3, ground := Ground.data }, { on := 2, ground := Ground.chain }], guard := none } : Oper)) (v := ?_) rfl (by kernel_rfl) (by kernel_rfl) (by kernel_rfl) (fun _ _ _ h => h) (Or.inl ⟨by rfl, ?_⟩) hHeld ?_
            rotate_left
            · intro w_ hSw; (try dsimp only at hSw); go_simp; try (with_reducible rfl)
            try simp only [Act.put, List.setIfInBounds_toArray, List.set_cons_zero, List.set_cons_succ]
            refine wpAnyH_take (i := 5) (oi := ({ dst := (some 18), op := (Op.move (Operand.tmp 3)), type := 3, pos := "page.go:46", after := #[{ on := 4, ground := Ground.guard }], guard := (some (4, false)) } : Oper)) (v := ?_) rfl (by kernel_rfl) (by kernel_rfl) (by kernel_rfl) (fun _ _ _ h => h) (Or.inl ⟨by rfl, ?_⟩) hHeld ?_
            rotate_left
            · intro w_ hSw; (try dsimp only at hSw); go_simp; try (with_reducible rfl)
            try simp only [Act.put, List.setIfInBounds_toArray, List.set_cons_zero, List.set_cons_succ]
            refine wpAnyH_take (i := 6) (oi := ({ dst := (some 19), op := (Op.binOp BinOp.gtr 3 (Operand.tmp 18) (Operand.const (Value.int IntKind.i64 0)) 3), type := 4, pos := "page.go:46", after := #[{ on := 5, ground := Ground.data }, { on := 4, ground := Ground.guard }], guard := (some (4, false)) } : Oper)) (v := ?_) rfl (by kernel_rfl) (by kernel_rfl) (by kernel_rfl) (fun _ _ _ h => h) (Or.inl ⟨by rfl, ?_⟩) hHeld ?_
            rotate_left
            · intro w_ hSw; (try dsimp only at hSw); go_simp; try (with_reducible rfl)
            try simp only [Act.put, List.setIfInBounds_toArray, List.set_cons_zero, List.set_cons_succ]
            refine wpAnyH_take (i := 7) (oi := ({ dst := (some 20), op := (Op.move (Operand.tmp 19)), type := 4, pos := "page.go:46", after := #[{ on := 6, ground := Ground.data }, { on := 4, ground := Ground.chain }, { on := 4, ground := Ground.guard }], guard := (some (4, false)) } : Oper)) (v := ?_) rfl (by kernel_rfl) (by kernel_rfl) (by kernel_rfl) (fun _ _ _ h => h) (Or.inl ⟨by rfl, ?_⟩) hHeld ?_
            rotate_left
            · intro w_ hSw; (try dsimp only at hSw); go_simp; try (with_reducible rfl)
            try simp only [Act.put, List.setIfInBounds_toArray, List.set_cons_zero, List.set_cons_succ]
            refine wpAnyH_take (i := 8) (oi := ({ dst := (some 21), op := (Op.fieldAddr 66 (Operand.tmp 4) 0), type := 0, pos := "page.go:46", after := #[{ on := 7, ground := Ground.guard }], guard := (some (7, true)) } : Oper)) (v := ?_) rfl (by kernel_rfl) (by kernel_rfl) (by kernel_rfl) (fun _ _ _ h => h) (Or.inl ⟨by rfl, ?_⟩) hHeld ?_
            rotate_left
            · intro w_ hSw; (try dsimp only at hSw); go_simp; try (with_reducible rfl)
            try simp only [Act.put, List.setIfInBounds_toArray, List.set_cons_zero, List.set_cons_succ]
            refine wpAnyH_take (i := 9) (oi := ({ dst := (some 22), op := (Op.load 9 (Operand.tmp 21)), type := 9, pos := "page.go:46", after := #[{ on := 8, ground := Ground.data }, { on := 7, ground := Ground.guard }], guard := (some (7, true)) } : Oper)) (v := ?_) rfl (by kernel_rfl) (by kernel_rfl) (by kernel_rfl) (fun _ _ _ h => h) (Or.inl ⟨by rfl, ?_⟩) hHeld ?_
            rotate_left
            · intro w_ hSw; (try dsimp only at hSw); go_simp; try (with_reducible rfl)
            try simp only [Act.put, List.setIfInBounds_toArray, List.set_cons_zero, List.set_cons_succ]
            refine wpAnyH_take (i := 10) (oi := ({ dst := (some 23), op := (Op.fieldAddr 113 (Operand.tmp 1) 1), type := 0, pos := "page.go:46", after := #[{ on := 7, ground := Ground.guard }], guard := (some (7, true)) } : Oper)) (v := ?_) rfl (by kernel_rfl) (by kernel_rfl) (by kernel_rfl) (fun _ _ _ h => h) (Or.inl ⟨by rfl, ?_⟩) hHeld ?_
            rotate_left
            · intro w_ hSw; (try dsimp only at hSw); go_simp; try (with_reducible rfl)
            try simp only [Act.put, List.setIfInBounds_toArray, List.set_cons_zero, List.set_cons_succ]
            refine wpAnyH_take (i := 11) (oi := ({ dst := (some 24), op := (Op.load 25 (Operand.tmp 23)), type := 25, pos := "page.go:46", after := #[{ on := 10, ground := Ground.data }, { on := 7, ground := Ground.guard }], guard := (some (7, true)) } : Oper)) (v := ?_) rfl (by kernel_rfl) (by kernel_rfl) (by kernel_rfl) (fun _ _ _ h => h) (Or.inl ⟨by rfl, ?_⟩) hHeld ?_
            rotate_left
            · intro w_ hSw; (try dsimp only at hSw); go_simp; try (with_reducible rfl)
            try simp only [Act.put, List.setIfInBounds_toArray, List.set_cons_zero, List.set_cons_succ]
            refine wpAnyH_take (i := 12) (oi := ({ dst := (some 25), op := (Op.move (Operand.tmp 3)), type := 3, pos := "page.go:46", after := #[{ on := 7, ground := Ground.guard }], guard := (some (7, true)) } : Oper)) (v := ?_) rfl (by kernel_rfl) (by kernel_rfl) (by kernel_rfl) (fun _ _ _ h => h) (Or.inl ⟨by rfl, ?_⟩) hHeld ?_
            rotate_left
            · intro w_ hSw; (try dsimp only at hSw); go_simp; try (with_reducible rfl)
            try simp only [Act.put, List.setIfInBounds_toArray, List.set_cons_zero, List.set_cons_succ]
            refine wpAnyH_take (i := 13) (oi := ({ dst := (some 26), op := (Op.binOp BinOp.sub 3 (Operand.tmp 25) (Operand.const (Value.int IntKind.i64 1)) 3), type := 3, pos := "page.go:46", after := #[{ on := 12, ground := Ground.data }, { on := 7, ground := Ground.guard }], guard := (some (7, true)) } : Oper)) (v := ?_) rfl (by kernel_rfl) (by kernel_rfl) (by kernel_rfl) (fun _ _ _ h => h) (Or.inl ⟨by rfl, ?_⟩) hHeld ?_
            rotate_left
            · intro w_ hSw; (try dsimp only at hSw); go_simp; try (with_reducible rfl)
            try simp only [Act.put, List.setIfInBounds_toArray, List.set_cons_zero, List.set_cons_succ]
            refine wpAnyH_take (i := 14) (oi := ({ dst := (some 27), op := (Op.indexAddr 25 (Operand.tmp 24) (Operand.tmp 26)), type := 0, pos := "page.go:46", after := #[{ on := 11, ground := Ground.data }, { on := 13, ground := Ground.data }, { on := 7, ground := Ground.guard }], guard := (some (7, true)) } : Oper)) (v := ?_) rfl (by kernel_rfl) (by kernel_rfl) (by kernel_rfl) (fun _ _ _ h => h) (Or.inl ⟨by rfl, ?_⟩) hHeld ?_
            rotate_left
            · intro w_ hSw; (try dsimp only at hSw); go_simp; try (with_reducible rfl)
            try simp only [Act.put, List.setIfInBounds_toArray, List.set_cons_zero, List.set_cons_succ]
            refine wpAnyH_take (i := 15) (oi := ({ dst := (some 28), op := (Op.fieldAddr 66 (Operand.tmp 27) 0), type := 0, pos := "page.go:46", after := #[{ on := 14, ground := Ground.data }, { on := 7, ground := Ground.guard }], guard := (some (7, true)) } : Oper)) (v := ?_) rfl (by kernel_rfl) (by kernel_rfl) (by kernel_rfl) (fun _ _ _ h => h) (Or.inl ⟨by rfl, ?_⟩) hHeld ?_
            rotate_left
            · intro w_ hSw; (try dsimp only at hSw); go_simp; try (with_reducible rfl)
            try simp only [Act.put, List.setIfInBounds_toArray, List.set_cons_zero, List.set_cons_succ]
            refine wpAnyH_take (i := 16) (oi := ({ dst := (some 29), op := (Op.load 9 (Operand.tmp 28)), type := 9, pos := "page.go:46", after := #[{ on := 15, ground := Ground.data }, { on := 7, ground := Ground.guard }], guard := (some (7, true)) } : Oper)) (v := ?_) rfl (by kernel_rfl) (by kernel_rfl) (by kernel_rfl) (fun _ _ _ h => h) (Or.inl ⟨by rfl, ?_⟩) hHeld ?_
            rotate_left
            · intro w_ hSw; (try dsimp only at hSw); go_simp; try (with_reducible rfl)
            try simp only [Act.put, List.setIfInBounds_toArray, List.set_cons_zero, List.set_cons_succ]
            refine wpAnyH_take (i := 17) (oi := ({ dst := (some 30), op := (Op.binOp BinOp.leq 9 (Operand.tmp 22) (Operand.tmp 29) 9), type := 4, pos := "page.go:46", after := #[{ on := 9, ground := Ground.data }, { on := 16, ground := Ground.data }, { on := 7, ground := Ground.guard }], guard := (some (7, true)) } : Oper)) (v := ?_) rfl (by kernel_rfl) (by kernel_rfl) (by kernel_rfl) (fun _ _ _ h => h) (Or.inl ⟨by rfl, ?_⟩) hHeld ?_
            rotate_left
            · intro w_ hSw; (try dsimp only at hSw); go_simp; try (with_reducible rfl)
            try simp only [Act.put, List.setIfInBounds_toArray, List.set_cons_zero, List.set_cons_succ]
            refine wpAnyH_take (i := 18) (oi := ({ dst := (some 31), op := (Op.pick (Operand.tmp 20) (Operand.tmp 30) (Operand.const (Value.bool false))), type := 4, pos := "page.go:46", after := #[{ on := 7, ground := Ground.data }, { on := 17, ground := Ground.data }, { on := 4, ground := Ground.guard }], guard := (some (4, false)) } : Oper)) (v := ?_) rfl (by kernel_rfl) (by kernel_rfl) (by kernel_rfl) (fun _ _ _ h => h) (Or.inl ⟨by rfl, ?_⟩) hHeld ?_
            rotate_left
            · intro w_ hSw; (try dsimp only at hSw); go_simp; try (with_reducible rfl)
            try simp only [Act.put, List.setIfInBounds_toArray, List.set_cons_zero, List.set_cons_succ]
            refine wpAnyH_take (i := 19) (oi := ({ dst := (some 32), op := (Op.pick (Operand.tmp 17) (Operand.const (Value.bool true)) (Operand.tmp 31)), type := 4, pos := "page.go:46", after := #[{ on := 4, ground := Ground.data }, { on := 18, ground := Ground.data }], guard := none } : Oper)) (v := ?_) rfl (by kernel_rfl) (by kernel_rfl) (by kernel_rfl) (fun _ _ _ h => h) (Or.inl ⟨by rfl, ?_⟩) hHeld ?_
            rotate_left
            · intro w_ hSw; (try dsimp only at hSw); go_simp; try (with_reducible rfl)
            try simp only [Act.put, List.setIfInBounds_toArray, List.set_cons_zero, List.set_cons_succ]
            refine wpAnyH_take (i := 20) (oi := ({ dst := (some 33), op := (Op.move (Operand.tmp 32)), type := 4, pos := "page.go:46", after := #[{ on := 19, ground := Ground.data }, { on := 7, ground := Ground.chain }], guard := none } : Oper)) (v := ?_) rfl (by kernel_rfl) (by kernel_rfl) (by kernel_rfl) (fun _ _ _ h => h) (Or.inl ⟨by rfl, ?_⟩) hHeld ?_
            rotate_left
            · intro w_ hSw; (try dsimp only at hSw); go_simp; try (with_reducible rfl)
            try simp only [Act.put, List.setIfInBounds_toArray, List.set_cons_zero, List.set_cons_succ]
            refine wpAnyH_take (i := 21) (oi := ({ dst := (some 34), op := (Op.fieldAddr 66 (Operand.tmp 4) 2), type := 0, pos := "page.go:46", after := #[{ on := 20, ground := Ground.guard }], guard := (some (20, false)) } : Oper)) (v := ?_) rfl (by kernel_rfl) (by kernel_rfl) (by kernel_rfl) (fun _ _ _ h => h) (Or.inl ⟨by rfl, ?_⟩) hHeld ?_
            rotate_left
            · intro w_ hSw; (try dsimp only at hSw); go_simp; try (with_reducible rfl)
            try simp only [Act.put, List.setIfInBounds_toArray, List.set_cons_zero, List.set_cons_succ]
            refine wpAnyH_take (i := 22) (oi := ({ dst := (some 35), op := (Op.load 3 (Operand.tmp 34)), type := 3, pos := "page.go:46", after := #[{ on := 21, ground := Ground.data }, { on := 20, ground := Ground.guard }], guard := (some (20, false)) } : Oper)) (v := ?_) rfl (by kernel_rfl) (by kernel_rfl) (by kernel_rfl) (fun _ _ _ h => h) (Or.inl ⟨by rfl, ?_⟩) hHeld ?_
            rotate_left
            · intro w_ hSw; (try dsimp only at hSw); go_simp; try (with_reducible rfl)
            try simp only [Act.put, List.setIfInBounds_toArray, List.set_cons_zero, List.set_cons_succ]
            refine wpAnyH_take (i := 23) (oi := ({ dst := (some 36), op := (Op.binOp BinOp.lss 3 (Operand.tmp 35) (Operand.const (Value.int IntKind.i64 1)) 3), type := 4, pos := "page.go:46", after := #[{ on := 22, ground := Ground.data }, { on := 20, ground := Ground.guard }], guard := (some (20, false)) } : Oper)) (v := ?_) rfl (by kernel_rfl) (by kernel_rfl) (by kernel_rfl) (fun _ _ _ h => h) (Or.inl ⟨by rfl, ?_⟩) hHeld ?_
            rotate_left
            · intro w_ hSw; (try dsimp only at hSw); go_simp; try (with_reducible rfl)
            try simp only [Act.put, List.setIfInBounds_toArray, List.set_cons_zero, List.set_cons_succ]
            refine wpAnyH_take (i := 24) (oi := ({ dst := (some 37), op := (Op.pick (Operand.tmp 33) (Operand.const (Value.bool true)) (Operand.tmp 36)), type := 4, pos := "page.go:46", after := #[{ on := 20, ground := Ground.data }, { on := 23, ground := Ground.data }], guard := none } : Oper)) (v := ?_) rfl (by kernel_rfl) (by kernel_rfl) (by kernel_rfl) (fun _ _ _ h => h) (Or.inl ⟨by rfl, ?_⟩) hHeld ?_
            rotate_left
            · intro w_ hSw; (try dsimp only at hSw); go_simp; try (with_reducible rfl)
            try simp only [Act.put, List.setIfInBounds_toArray, List.set_cons_zero, List.set_cons_succ]
            refine wpAnyH_take (i := 25) (oi := ({ dst := (some 38), op := (Op.move (Operand.tmp 37)), type := 4, pos := "page.go:46", after := #[{ on := 24, ground := Ground.data }, { on := 20, ground := Ground.chain }], guard := none } : Oper)) (v := ?_) rfl (by kernel_rfl) (by kernel_rfl) (by kernel_rfl) (fun _ _ _ h => h) (Or.inl ⟨by rfl, ?_⟩) hHeld ?_
            rotate_left
            · intro w_ hSw; (try dsimp only at hSw); go_simp; try (with_reducible rfl)
            try simp only [Act.put, List.setIfInBounds_toArray, List.set_cons_zero, List.set_cons_succ]
            refine wpAnyH_take (i := 26) (oi := ({ dst := (some 39), op := (Op.fieldAddr 66 (Operand.tmp 4) 2), type := 0, pos := "page.go:46", after := #[{ on := 25, ground := Ground.guard }], guard := (some (25, false)) } : Oper)) (v := _) rfl (by kernel_rfl) (by kernel_rfl) (by kernel_rfl) (fun _ _ _ h => h) (Or.inr ⟨by rfl, rfl⟩) hHeld ?_
            try simp only [Act.put, List.setIfInBounds_toArray, List.set_cons_zero, List.set_cons_succ]
            refine wpAnyH_take (i := 27) (oi := ({ dst := (some 40), op := (Op.load 3 (Operand.tmp 39)), type := 3, pos := "page.go:46", after := #[{ on := 26, ground := Ground.data }, { on := 25, ground := Ground.guard }], guard := (some (25, false)) } : Oper)) (v := _) rfl (by kernel_rfl) (by kernel_rfl) (by kernel_rfl) (fun _ _ _ h => h) (Or.inr ⟨by rfl, rfl⟩) hHeld ?_
            try simp only [Act.put, List.setIfInBounds_toArray, List.set_cons_zero, List.set_cons_succ]
            refine wpAnyH_take (i := 28) (oi := ({ dst := (some 41), op := (Op.binOp BinOp.gtr 3 (Operand.tmp 40) (Operand.const (Value.int IntKind.i64 65536)) 3), type := 4, pos := "page.go:46", after := #[{ on := 27, ground := Ground.data }, { on := 25, ground := Ground.guard }], guard := (some (25, false)) } : Oper)) (v := _) rfl (by kernel_rfl) (by kernel_rfl) (by kernel_rfl) (fun _ _ _ h => h) (Or.inr ⟨by rfl, rfl⟩) hHeld ?_
            try simp only [Act.put, List.setIfInBounds_toArray, List.set_cons_zero, List.set_cons_succ]
            refine wpAnyH_take (i := 29) (oi := ({ dst := (some 42), op := (Op.pick (Operand.tmp 38) (Operand.const (Value.bool true)) (Operand.tmp 41)), type := 4, pos := "page.go:46", after := #[{ on := 25, ground := Ground.data }, { on := 28, ground := Ground.data }], guard := none } : Oper)) (v := ?_) rfl (by kernel_rfl) (by kernel_rfl) (by kernel_rfl) (fun _ _ _ h => h) (Or.inl ⟨by rfl, ?_⟩) hHeld ?_
            rotate_left
            · intro w_ hSw; (try dsimp only at hSw); go_simp; try (with_reducible rfl)
            try simp only [Act.put, List.setIfInBounds_toArray, List.set_cons_zero, List.set_cons_succ]
            refine wpAnyH_done (by kernel_rfl) ?_ _
            go_wp2_with fail
            go_ret
            exact ⟨by rw [HBAD.out (by rw [HPD.out] <;> (simp [*] <;> omega))]; rfl, HP.out.below⟩
          · have n1 : decide (y.f2 < 1) = false := decide_eq_false cn
            have n3 : 1 ≤ y.f2 := by omega
            clear cn
            by_cases cm : y.f2 > 65536
            · have n2 : decide (65536 < y.f2) = true := decide_eq_true cm
              have n4 : ¬ (y.f2 ≤ 65536) := by omega
              clear cm
              refine held_named (S := (fun w' => w'.cell? ⟨gx, 0, none⟩ = some (.string y.f0) ∧ w'.cell? ⟨gx, 33, none⟩ = some (.int .i64 y.f2) ∧ w'.cell? ⟨g1, 1, none⟩ = some (.slice (some ⟨Ab, Ao, none⟩) l.length c) ∧ w'.cell? ⟨Ab, Ao + (x.toNat - 1) * 34, none⟩ = some (.string p.f0))) (by kernel_rfl) (fun wd6 hwd6 => ?_)
              have HPn := Aside0.mk (HP.out.drewN 1)
              rw [← World.drew_is_drewN, hwd6] at HPn
              clear HP hwd6
              have HP := HPn
              clear HPn
              refine ⟨by (try dsimp only); exact ⟨cell_f (HP.out.blk 0 rfl), cell_n (HP.out.blk 0 rfl), blk_cell (HP.out.blk 1 rfl) 1, HPV.out _ HP.out.below⟩, fun hHeld => ?_⟩
              refine wpAnyH_take (i := 0) (oi := ({ dst := (some 13), op := (Op.fieldAddr 66 (Operand.tmp 4) 0), type := 0, pos := "page.go:46", after := #[], guard := none } : Oper)) (v := ?_) rfl (by kernel_rfl) (by kernel_rfl) (by kernel_rfl) (fun _ _ _ h => h) (Or.inl ⟨by rfl, ?_⟩) hHeld ?_
              rotate_left
              · intro w_ hSw; (try dsimp only at hSw); go_simp; try (with_reducible rfl)
              try simp only [Act.put, List.setIfInBounds_toArray, List.set_cons_zero, List.set_cons_succ]
              refine wpAnyH_take (i := 1) (oi := ({ dst := (some 14), op := (Op.load 9 (Operand.tmp 13)), type := 9, pos := "page.go:46", after := #[{ on := 0, ground := Ground.data }], guard := none } : Oper)) (v := ?_) rfl (by kernel_rfl) (by kernel_rfl) (by kernel_rfl) (fun _ _ _ h => h) (Or.inl ⟨by rfl, ?_⟩) hHeld ?_
              rotate_left
              · intro w_ hSw; (try dsimp only at hSw); go_simp; try (with_reducible rfl)
              try simp only [Act.put, List.setIfInBounds_toArray, List.set_cons_zero, List.set_cons_succ]
              refine wpAnyH_ready (rs := [2]) (by kernel_rfl) (by simp) ?_
              refine AllReadyH.cons (o := ({ dst := (some 15), op := (Op.call { callee := (Callee.value (Operand.func 60)), args := #[(Operand.tmp 14)], argTypes := #[9] }), type := 4, pos := "page.go:46", after := #[{ on := 1, ground := Ground.data }], guard := none } : Oper)) rfl (fun K hK => ?_) AllReadyH.nil
              go_simp
              go_at_call 60; refine (c_key _ _).mono ?_; rintro e w_ ⟨rfl, rfl⟩; (try rw [hkey])
              go_wp2_with fail
              clear hHeld
              refine hK.out _ _ ?_ (fun hHeld => ?_)
              · (try dsimp only); exact ⟨cell_f (HP.out.blk 0 rfl), cell_n (HP.out.blk 0 rfl), blk_cell (HP.out.blk 1 rfl) 1, HPV.out _ HP.out.below⟩
              clear hK K
              try simp only [Act.put, List.setIfInBounds_toArray, List.set_cons_zero, List.set_cons_succ]
              refine wpAnyH_take (i := 3) (oi := ({ dst := (some 16), op := (Op.unOp UnOp.not 4 (Operand.tmp 15)), type := 4, pos := "page.go:46", after := #[{ on := 2, ground := Ground.data }], guard := none } : Oper)) (v := ?_) rfl (by kernel_rfl) (by kernel_rfl) (by kernel_rfl) (fun _ _ _ h => h) (Or.inl ⟨by rfl, ?_⟩) hHeld ?_
              rotate_left
              · intro w_ hSw; (try dsimp only at hSw); go_simp; try (with_reducible rfl)
              try simp only [Act.put, List.setIfInBounds_toArray, List.set_cons_zero, List.set_cons_succ]
              refine wpAnyH_take (i := 4) (oi := ({ dst := (some 17), op := (Op.move (Operand.tmp 16)), type := 4, pos := "page.go:46", after := #[{ on := 3, ground := Ground.data }, { on := 2, ground := Ground.chain }], guard := none } : Oper)) (v := ?_) rfl (by kernel_rfl) (by kernel_rfl) (by kernel_rfl) (fun _ _ _ h => h) (Or.inl ⟨by rfl, ?_⟩) hHeld ?_
              rotate_left
              · intro w_ hSw; (try dsimp only at hSw); go_simp; try (with_reducible rfl)
              try simp only [Act.put, List.setIfInBounds_toArray, List.set_cons_zero, List.set_cons_succ]
              refine wpAnyH_take (i := 5) (oi := ({ dst := (some 18), op := (Op.move (Operand.tmp 3)), type := 3, pos := "page.go:46", after := #[{ on := 4, ground := Ground.guard }], guard := (some (4, false)) } : Oper)) (v := ?_) rfl (by kernel_rfl) (by kernel_rfl) (by kernel_rfl) (fun _ _ _ h => h) (Or.inl ⟨by rfl, ?_⟩) hHeld ?_
              rotate_left
              · intro w_ hSw; (try dsimp only at hSw); go_simp; try (with_reducible rfl)
              try simp only [Act.put, List.setIfInBounds_toArray, List.set_cons_zero, List.set_cons_succ]
              refine wpAnyH_take (i := 6) (oi := ({ dst := (some 19), op := (Op.binOp BinOp.gtr 3 (Operand.tmp 18) (Operand.const (Value.int IntKind.i64 0)) 3), type := 4, pos := "page.go:46", after := #[{ on := 5, ground := Ground.data }, { on := 4, ground := Ground.guard }], guard := (some (4, false)) } : Oper)) (v := ?_) rfl (by kernel_rfl) (by kernel_rfl) (by kernel_rfl) (fun _ _ _ h => h) (Or.inl ⟨by rfl, ?_⟩) hHeld ?_
              rotate_left
              · intro w_ hSw; (try dsimp only at hSw); go_simp; try (with_reducible rfl)
              try simp only [Act.put, List.setIfInBounds_toArray, List.set_cons_zero, List.set_cons_succ]
              refine wpAnyH_take (i := 7) (oi := ({ dst := (some 20), op := (Op.move (Operand.tmp 19)), type := 4, pos := "page.go:46", after := #[{ on := 6, ground := Ground.data }, { on := 4, ground := Ground.chain }, { on := 4, ground := Ground.guard }], guard := (some (4, false)) } : Oper)) (v := ?_) rfl (by kernel_rfl) (by kernel_rfl) (by kernel_rfl) (fun _ _ _ h => h) (Or.inl ⟨by rfl, ?_⟩) hHeld ?_
              rotate_left
              · intro w_ hSw; (try dsimp only at hSw); go_simp; try (with_reducible rfl)
              try simp only [Act.put, List.setIfInBounds_toArray, List.set_cons_zero, List.set_cons_succ]
              refine wpAnyH_take (i := 8) (oi := ({ dst := (some 21), op := (Op.fieldAddr 66 (Operand.tmp 4) 0), type := 0, pos := "page.go:46", after := #[{ on := 7, ground := Ground.guard }], guard := (some (7, true)) } : Oper)) (v := ?_) rfl (by kernel_rfl) (by kernel_rfl) (by kernel_rfl) (fun _ _ _ h => h) (Or.inl ⟨by rfl, ?_⟩) hHeld ?_
              rotate_left
              · intro w_ hSw; (try dsimp only at hSw); go_simp; try (with_reducible rfl)
              try simp only [Act.put, List.setIfInBounds_toArray, List.set_cons_zero, List.set_cons_succ]
              refine wpAnyH_take (i := 9) (oi := ({ dst := (some 22), op := (Op.load 9 (Operand.tmp 21)), type := 9, pos := "page.go:46", after := #[{ on := 8, ground := Ground.data }, { on := 7, ground := Ground.guard }], guard := (some (7, true)) } : Oper)) (v := ?_) rfl (by kernel_rfl) (by kernel_rfl) (by kernel_rfl) (fun _ _ _ h => h) (Or.inl ⟨by rfl, ?_⟩) hHeld ?_
              rotate_left
              · intro w_ hSw; (try dsimp only at hSw); go_simp; try (with_reducible rfl)
              try simp only [Act.put, List.setIfInBounds_toArray, List.set_cons_zero, List.set_cons_succ]
              refine wpAnyH_take (i := 10) (oi := ({ dst := (some 23), op := (Op.fieldAddr 113 (Operand.tmp 1) 1), type := 0, pos := "page.go:46", after := #[{ on := 7, ground := Ground.guard }], guard := (some (7, true)) } : Oper)) (v := ?_) rfl (by kernel_rfl) (by kernel_rfl) (by kernel_rfl) (fun _ _ _ h => h) (Or.inl ⟨by rfl, ?_⟩) hHeld ?_
              rotate_left
              · intro w_ hSw; (try dsimp only at hSw); go_simp; try (with_reducible rfl)
              try simp only [Act.put, List.setIfInBounds_toArray, List.set_cons_zero, List.set_cons_succ]
              refine wpAnyH_take (i := 11) (oi := ({ dst := (some 24), op := (Op.load 25 (Operand.tmp 23)), type := 25, pos := "page.go:46", after := #[{ on := 10, ground := Ground.data }, { on := 7, ground := Ground.guard }], guard := (some (7, true)) } : Oper)) (v := ?_) rfl (by kernel_rfl) (by kernel_rfl) (by kernel_rfl) (fun _ _ _ h => h) (Or.inl ⟨by rfl, ?_⟩) hHeld ?_
              rotate_left
              · intro w_ hSw; (try dsimp only at hSw); go_simp; try (with_reducible rfl)
              try simp only [Act.put, List.setIfInBounds_toArray, List.set_cons_zero, List.set_cons_succ]
              refine wpAnyH_take (i := 12) (oi := ({ dst := (some 25), op := (Op.move (Operand.tmp 3)), type := 3, pos := "page.go:46", after := #[{ on := 7, ground := Ground.guard }], guard := (some (7, true)) } : Oper)) (v := ?_) rfl (by kernel_rfl) (by kernel_rfl) (by kernel_rfl) (fun _ _ _ h => h) (Or.inl ⟨by rfl, ?_⟩) hHeld ?_
              rotate_left
              · intro w_ hSw; (try dsimp only at hSw); go_simp; try (with_reducible rfl)
              try simp only [Act.put, List.setIfInBounds_toArray, List.set_cons_zero, List.set_cons_succ]
              refine wpAnyH_take (i := 13) (oi := ({ dst := (some 26), op := (Op.binOp BinOp.sub 3 (Operand.tmp 25) (Operand.const (Value.int IntKind.i64 1)) 3), type := 3, pos := "page.go:46", after := #[{ on := 12, ground := Ground.data }, { on := 7, ground := Ground.guard }], guard := (some (7, true)) } : Oper)) (v := ?_) rfl (by kernel_rfl) (by kernel_rfl) (by kernel_rfl) (fun _ _ _ h => h) (Or.inl ⟨by rfl, ?_⟩) hHeld ?_
              rotate_left
              · intro w_ hSw; (try dsimp only at hSw); go_simp; try (with_reducible rfl)
              try simp only [Act.put, List.setIfInBounds_toArray, List.set_cons_zero, List.set_cons_succ]
              refine wpAnyH_take (i := 14) (oi := ({ dst := (some 27), op := (Op.indexAddr 25 (Operand.tmp 24) (Operand.tmp 26)), type := 0, pos := "page.go:46", after := #[{ on := 11, ground := Ground.data }, { on := 13, ground := Ground.data }, { on := 7, ground := Ground.guard }], guard := (some (7, true)) } : Oper)) (v := ?_) rfl (by kernel_rfl) (by kernel_rfl) (by kernel_rfl) (fun _ _ _ h => h) (Or.inl ⟨by rfl, ?_⟩) hHeld ?_
              rotate_left
              · intro w_ hSw; (try dsimp only at hSw); go_simp; try (with_reducible rfl)
              try simp only [Act.put, List.setIfInBounds_toArray, List.set_cons_zero, List.set_cons_succ]
              refine wpAnyH_take (i := 15) (oi := ({ dst := (some 28), op := (Op.fieldAddr 66 (Operand.tmp 27) 0), type := 0, pos := "page.go:46", after := #[{ on := 14, ground := Ground.data }, { on := 7, ground := Ground.guard }], guard := (some (7, true)) } : Oper)) (v := ?_) rfl (by kernel_rfl) (by kernel_rfl) (by kernel_rfl) (fun _ _ _ h => h) (Or.inl ⟨by rfl, ?_⟩) hHeld ?_
              rotate_left
              · intro w_ hSw; (try dsimp only at hSw); go_simp; try (with_reducible rfl)
              try simp only [Act.put, List.setIfInBounds_toArray, List.set_cons_zero, List.set_cons_succ]
              refine wpAnyH_take (i := 16) (oi := ({ dst := (some 29), op := (Op.load 9 (Operand.tmp 28)), type := 9, pos := "page.go:46", after := #[{ on := 15, ground := Ground.data }, { on := 7, ground := Ground.guard }], guard := (some (7, true)) } : Oper)) (v := ?_) rfl (by kernel_rfl) (by kernel_rfl) (by kernel_rfl) (fun _ _ _ h => h) (Or.inl ⟨by rfl, ?_⟩) hHeld ?_
              rotate_left
              · intro w_ hSw; (try dsimp only at hSw); go_simp; try (with_reducible rfl)
              try simp only [Act.put, List.setIfInBounds_toArray, List.set_cons_zero, List.set_cons_succ]
              refine wpAnyH_take (i := 17) (oi := ({ dst := (some 30), op := (Op.binOp BinOp.leq 9 (Operand.tmp 22) (Operand.tmp 29) 9), type := 4, pos := "page.go:46", after := #[{ on := 9, ground := Ground.data }, { on := 16, ground := Ground.data }, { on := 7, ground := Ground.guard }], guard := (some (7, true)) } : Oper)) (v := ?_) rfl (by kernel_rfl) (by kernel_rfl) (by kernel_rfl) (fun _ _ _ h => h) (Or.inl ⟨by rfl, ?_⟩) hHeld ?_
              rotate_left
              · intro w_ hSw; (try dsimp only at hSw); go_simp; try (with_reducible rfl)
              try simp only [Act.put, List.setIfInBounds_toArray, List.set_cons_zero, List.set_cons_succ]
              refine wpAnyH_take (i := 18) (oi := ({ dst := (some 31), op := (Op.pick (Operand.tmp 20) (Operand.tmp 30) (Operand.const (Value.bool false))), type := 4, pos := "page.go:46", after := #[{ on := 7, ground := Ground.data }, { on := 17, ground := Ground.data }, { on := 4, ground := Ground.guard }], guard := (some (4, false)) } : Oper)) (v := ?_) rfl (by kernel_rfl) (by kernel_rfl) (by kernel_rfl) (fun _ _ _ h => h) (Or.inl ⟨by rfl, ?_⟩) hHeld ?_
              rotate_left
              · intro w_ hSw; (try dsimp only at hSw); go_simp; try (with_reducible rfl)
              try simp only [Act.put, List.setIfInBounds_toArray, List.set_cons_zero, List.set_cons_succ]
              refine wpAnyH_take (i := 19) (oi := ({ dst := (some 32), op := (Op.pick (Operand.tmp 17) (Operand.const (Value.bool true)) (Operand.tmp 31)), type := 4, pos := "page.go:46", after := #[{ on := 4, ground := Ground.data }, { on := 18, ground := Ground.data }], guard := none } : Oper)) (v := ?_) rfl (by kernel_rfl) (by kernel_rfl) (by kernel_rfl) (fun _ _ _ h => h) (Or.inl ⟨by rfl, ?_⟩) hHeld ?_
              rotate_left
              · intro w_ hSw; (try dsimp only at hSw); go_simp; try (with_reducible rfl)
              try simp only [Act.put, List.setIfInBounds_toArray, List.set_cons_zero, List.set_cons_succ]
              refine wpAnyH_take (i := 20) (oi := ({ dst := (some 33), op := (Op.move (Operand.tmp 32)), type := 4, pos := "page.go:46", after := #[{ on := 19, ground := Ground.data }, { on := 7, ground := Ground.chain }], guard := none } : Oper)) (v := ?_) rfl (by kernel_rfl) (by kernel_rfl) (by kernel_rfl) (fun _ _ _ h => h) (Or.inl ⟨by rfl, ?_⟩) hHeld ?_
              rotate_left
              · intro w_ hSw; (try dsimp only at hSw); go_simp; try (with_reducible rfl)
              try simp only [Act.put, List.setIfInBounds_toArray, List.set_cons_zero, List.set_cons_succ]
              refine wpAnyH_take (i := 21) (oi := ({ dst := (some 34), op := (Op.fieldAddr 66 (Operand.tmp 4) 2), type := 0, pos := "page.go:46", after := #[{ on := 20, ground := Ground.guard }], guard := (some (20, false)) } : Oper)) (v := ?_) rfl (by kernel_rfl) (by kernel_rfl) (by kernel_rfl) (fun _ _ _ h => h) (Or.inl ⟨by rfl, ?_⟩) hHeld ?_
              rotate_left
              · intro w_ hSw; (try dsimp only at hSw); go_simp; try (with_reducible rfl)
              try simp only [Act.put, List.setIfInBounds_toArray, List.set_cons_zero, List.set_cons_succ]
              refine wpAnyH_take (i := 22) (oi := ({ dst := (some 35), op := (Op.load 3 (Operand.tmp 34)), type := 3, pos := "page.go:46", after := #[{ on := 21, ground := Ground.data }, { on := 20, ground := Ground.guard }], guard := (some (20, false)) } : Oper)) (v := ?_) rfl (by kernel_rfl) (by kernel_rfl) (by kernel_rfl) (fun _ _ _ h => h) (Or.inl ⟨by rfl, ?_⟩) hHeld ?_
              rotate_left
              · intro w_ hSw; (try dsimp only at hSw); go_simp; try (with_reducible rfl)
              try simp only [Act.put, List.setIfInBounds_toArray, List.set_cons_zero, List.set_cons_succ]
              refine wpAnyH_take (i := 23) (oi := ({ dst := (some 36), op := (Op.binOp BinOp.lss 3 (Operand.tmp 35) (Operand.const (Value.int IntKind.i64 1)) 3), type := 4, pos := "page.go:46", after := #[{ on := 22, ground := Ground.data }, { on := 20, ground := Ground.guard }], guard := (some (20, false)) } : Oper)) (v := ?_) rfl (by kernel_rfl) (by kernel_rfl) (by kernel_rfl) (fun _ _ _ h => h) (Or.inl ⟨by rfl, ?_⟩) hHeld ?_
              rotate_left
              · intro w_ hSw; (try dsimp only at hSw); go_simp; try (with_reducible rfl)
              try simp only [Act.put, List.setIfInBounds_toArray, List.set_cons_zero, List.set_cons_succ]
              refine wpAnyH_take (i := 24) (oi := ({ dst := (some 37), op := (Op.pick (Operand.tmp 33) (Operand.const (Value.bool true)) (Operand.tmp 36)), type := 4, pos := "page.go:46", after := #[{ on := 20, ground := Ground.data }, { on := 23, ground := Ground.data }], guard := none } : Oper)) (v := ?_) rfl (by kernel_rfl) (by kernel_rfl) (by kernel_rfl) (fun _ _ _ h => h) (Or.inl ⟨by rfl, ?_⟩) hHeld ?_
              rotate_left
              · intro w_ hSw; (try dsimp only at hSw); go_simp; try (with_reducible rfl)
              try simp only [Act.put, List.setIfInBounds_toArray, List.set_cons_zero, List.set_cons_succ]
              refine wpAnyH_take (i := 25) (oi := ({ dst := (some 38), op := (Op.move (Operand.tmp 37)), type := 4, pos := "page.go:46", after := #[{ on := 24, ground := Ground.data }, { on := 20, ground := Ground.chain }], guard := none } : Oper)) (v := ?_) rfl (by kernel_rfl) (by kernel_rfl) (by kernel_rfl) (fun _ _ _ h => h) (Or.inl ⟨by rfl, ?_⟩) hHeld ?_
              rotate_left
              · intro w_ hSw; (try dsimp only at hSw); go_simp; try (with_reducible rfl)
              try simp only [Act.put, List.setIfInBounds_toArray, List.set_cons_zero, List.set_cons_succ]
              refine wpAnyH_take (i := 26) (oi := ({ dst := (some 39), op := (Op.fieldAddr 66 (Operand.tmp 4) 2), type := 0, pos := "page.go:46", after := #[{ on := 25, ground := Ground.guard }], guard := (some (25, false)) } : Oper)) (v := ?_) rfl (by kernel_rfl) (by kernel_rfl) (by kernel_rfl) (fun _ _ _ h => h) (Or.inl ⟨by rfl, ?_⟩) hHeld ?_
              rotate_left
              · intro w_ hSw; (try dsimp only at hSw); go_simp; try (with_reducible rfl)
              try simp only [Act.put, List.setIfInBounds_toArray, List.set_cons_zero, List.set_cons_succ]
              refine wpAnyH_take (i := 27) (oi := ({ dst := (some 40), op := (Op.load 3 (Operand.tmp 39)), type := 3, pos := "page.go:46", after := #[{ on := 26, ground := Ground.data }, { on := 25, ground := Ground.guard }], guard := (some (25, false)) } : Oper)) (v := ?_) rfl (by kernel_rfl) (by kernel_rfl) (by kernel_rfl) (fun _ _ _ h => h) (Or.inl ⟨by rfl, ?_⟩) hHeld ?_
              rotate_left
              · intro w_ hSw; (try dsimp only at hSw); go_simp; try (with_reducible rfl)
              try simp only [Act.put, List.setIfInBounds_toArray, List.set_cons_zero, List.set_cons_succ]
              refine wpAnyH_take (i := 28) (oi := ({ dst := (some 41), op := (Op.binOp BinOp.gtr 3 (Operand.tmp 40) (Operand.const (Value.int IntKind.i64 65536)) 3), type := 4, pos := "page.go:46", after := #[{ on := 27, ground := Ground.data }, { on := 25, ground := Ground.guard }], guard := (some (25, false)) } : Oper)) (v := ?_) rfl (by kernel_rfl) (by kernel_rfl) (by kernel_rfl) (fun _ _ _ h => h) (Or.inl ⟨by rfl, ?_⟩) hHeld ?_
              rotate_left
              · intro w_ hSw; (try dsimp only at hSw); go_simp; try (with_reducible rfl)
              try simp only [Act.put, List.setIfInBounds_toArray, List.set_cons_zero, List.set_cons_succ]
              refine wpAnyH_take (i := 29) (oi := ({ dst := (some 42), op := (Op.pick (Operand.tmp 38) (Operand.const (Value.bool true)) (Operand.tmp 41)), type := 4, pos := "page.go:46", after := #[{ on := 25, ground := Ground.data }, { on := 28, ground := Ground.data }], guard := none } : Oper)) (v := ?_) rfl (by kernel_rfl) (by kernel_rfl) (by kernel_rfl) (fun _ _ _ h => h) (Or.inl ⟨by rfl, ?_⟩) hHeld ?_
              rotate_left
              · intro w_ hSw; (try dsimp only at hSw); go_simp; try (with_reducible rfl)
              try simp only [Act.put, List.setIfInBounds_toArray, List.set_cons_zero, List.set_cons_succ]
              refine wpAnyH_done (by kernel_rfl) ?_ _
              go_wp2_with fail
              go_ret
              exact ⟨by rw [HBAD.out (by rw [HPD.out] <;> (simp [*] <;> omega))]; rfl, HP.out.below⟩
            · have n2 : decide (65536 < y.f2) = false := decide_eq_false cm
              have n4 : y.f2 ≤ 65536 := by omega
              clear cm
              refine held_named (S := (fun w' => w'.cell? ⟨gx, 0, none⟩ = some (.string y.f0) ∧ w'.cell? ⟨gx, 33, none⟩ = some (.int .i64 y.f2) ∧ w'.cell? ⟨g1, 1, none⟩ = some (.slice (some ⟨Ab, Ao, none⟩) l.length c) ∧ w'.cell? ⟨Ab, Ao + (x.toNat - 1) * 34, none⟩ = some (.string p.f0))) (by kernel_rfl) (fun wd6 hwd6 => ?_)
              have HPn := Aside0.mk (HP.out.drewN 1)
              rw [← World.drew_is_drewN, hwd6] at HPn
              clear HP hwd6
              have HP := HPn
              clear HPn
              refine ⟨by (try dsimp only); exact ⟨cell_f (HP.out.blk 0 rfl), cell_n (HP.out.blk 0 rfl), blk_cell (HP.out.blk 1 rfl) 1, HPV.out _ HP.out.below⟩, fun hHeld => ?_⟩
              refine wpAnyH_take (i := 0) (oi := ({ dst := (some 13), op := (Op.fieldAddr 66 (Operand.tmp 4) 0), type := 0, pos := "page.go:46", after := #[], guard := none } : Oper)) (v := ?_) rfl (by kernel_rfl) (by kernel_rfl) (by kernel_rfl) (fun _ _ _ h => h) (Or.inl ⟨by rfl, ?_⟩) hHeld ?_
              rotate_left
              · intro w_ hSw; (try dsimp only at hSw); go_simp; try (with_reducible rfl)
              try simp only [Act.put, List.setIfInBounds_toArray, List.set_cons_zero, List.set_cons_succ]
              refine wpAnyH_take (i := 1) (oi := ({ dst := (some 14), op := (Op.load 9 (Operand.tmp 13)), type := 9, pos := "page.go:46", after := #[{ on := 0, ground := Ground.data }], guard := none } : Oper)) (v := ?_) rfl (by kernel_rfl) (by kernel_rfl) (by kernel_rfl) (fun _ _ _ h => h) (Or.inl ⟨by rfl, ?_⟩) hHeld ?_
              rotate_left
              · intro w_ hSw; (try dsimp only at hSw); go_simp; try (with_reducible rfl)
              try simp only [Act.put, List.setIfInBounds_toArray, List.set_cons_zero, List.set_cons_succ]
              refine wpAnyH_ready (rs := [2]) (by kernel_rfl) (by simp) ?_
              refine AllReadyH.cons (o := ({ dst := (some 15), op := (Op.call { callee := (Callee.value (Operand.func 60)), args := #[(Operand.tmp 14)], argTypes := #[9] }), type := 4, pos := "page.go:46", after := #[{ on := 1, ground := Ground.data }], guard := none } : Oper)) rfl (fun K hK => ?_) AllReadyH.nil
              go_simp
              go_at_call 60; refine (c_key _ _).mono ?_; rintro e w_ ⟨rfl, rfl⟩; (try rw [hkey])
              go_wp2_with fail
              clear hHeld
              refine hK.out _ _ ?_ (fun hHeld => ?_)
              · (try dsimp only); exact ⟨cell_f (HP.out.blk 0 rfl), cell_n (HP.out.blk 0 rfl), blk_cell (HP.out.blk 1 rfl) 1, HPV.out _ HP.out.below⟩
              clear hK K
              try simp only [Act.put, List.setIfInBounds_toArray, List.set_cons_zero, List.set_cons_succ]
              refine wpAnyH_take (i := 3) (oi := ({ dst := (some 16), op := (Op.unOp UnOp.not 4 (Operand.tmp 15)), type := 4, pos := "page.go:46", after := #[{ on := 2, ground := Ground.data }], guard := none } : Oper)) (v := ?_) rfl (by kernel_rfl) (by kernel_rfl) (by kernel_rfl) (fun _ _ _ h => h) (Or.inl ⟨by rfl, ?_⟩) hHeld ?_
              rotate_left
              · intro w_ hSw; (try dsimp only at hSw); go_simp; try (with_reducible rfl)
              try simp only [Act.put, List.setIfInBounds_toArray, List.set_cons_zero, List.set_cons_succ]
              refine wpAnyH_take (i := 4) (oi := ({ dst := (some 17), op := (Op.move (Operand.tmp 16)), type := 4, pos := "page.go:46", after := #[{ on := 3, ground := Ground.data }, { on := 2, ground := Ground.chain }], guard := none } : Oper)) (v := ?_) rfl (by kernel_rfl) (by kernel_rfl) (by kernel_rfl) (fun _ _ _ h => h) (Or.inl ⟨by rfl, ?_⟩) hHeld ?_
              rotate_left
              · intro w_ hSw; (try dsimp only at hSw); go_simp; try (with_reducible rfl)
              try simp only [Act.put, List.setIfInBounds_toArray, List.set_cons_zero, List.set_cons_succ]
              refine wpAnyH_take (i := 5) (oi := ({ dst := (some 18), op := (Op.move (Operand.tmp 3)), type := 3, pos := "page.go:46", after := #[{ on := 4, ground := Ground.guard }], guard := (some (4, false)) } : Oper)) (v := ?_) rfl (by kernel_rfl) (by kernel_rfl) (by kernel_rfl) (fun _ _ _ h => h) (Or.inl ⟨by rfl, ?_⟩) hHeld ?_
              rotate_left
              · intro w_ hSw; (try dsimp only at hSw); go_simp; try (with_reducible rfl)
              try simp only [Act.put, List.setIfInBounds_toArray, List.set_cons_zero, List.set_cons_succ]
              refine wpAnyH_take (i := 6) (oi := ({ dst := (some 19), op := (Op.binOp BinOp.gtr 3 (Operand.tmp 18) (Operand.const (Value.int IntKind.i64 0)) 3), type := 4, pos := "page.go:46", after := #[{ on := 5, ground := Ground.data }, { on := 4, ground := Ground.guard }], guard := (some (4, false)) } : Oper)) (v := ?_) rfl (by kernel_rfl) (by kernel_rfl) (by kernel_rfl) (fun _ _ _ h => h) (Or.inl ⟨by rfl, ?_⟩) hHeld ?_
              rotate_left
              · intro w_ hSw; (try dsimp only at hSw); go_simp; try (with_reducible rfl)
              try simp only [Act.put, List.setIfInBounds_toArray, List.set_cons_zero, List.set_cons_succ]
              refine wpAnyH_take (i := 7) (oi := ({ dst := (some 20), op := (Op.move (Operand.tmp 19)), type := 4, pos := "page.go:46", after := #[{ on := 6, ground := Ground.data }, { on := 4, ground := Ground.chain }, { on := 4, ground := Ground.guard }], guard := (some (4, false)) } : Oper)) (v := ?_) rfl (by kernel_rfl) (by kernel_rfl) (by kernel_rfl) (fun _ _ _ h => h) (Or.inl ⟨by rfl, ?_⟩) hHeld ?_
              rotate_left
              · intro w_ hSw; (try dsimp only at hSw); go_simp; try (with_reducible rfl)
              try simp only [Act.put, List.setIfInBounds_toArray, List.set_cons_zero, List.set_cons_succ]
              refine wpAnyH_take (i := 8) (oi := ({ dst := (some 21), op := (Op.fieldAddr 66 (Operand.tmp 4) 0), type := 0, pos := "page.go:46", after := #[{ on := 7, ground := Ground.guard }], guard := (some (7, true)) } : Oper)) (v := ?_) rfl (by kernel_rfl) (by kernel_rfl) (by kernel_rfl) (fun _ _ _ h => h) (Or.inl ⟨by rfl, ?_⟩) hHeld ?_
              rotate_left
              · intro w_ hSw; (try dsimp only at hSw); go_simp; try (with_reducible rfl)
              try simp only [Act.put, List.setIfInBounds_toArray, List.set_cons_zero, List.set_cons_succ]
              refine wpAnyH_take (i := 9) (oi := ({ dst := (some 22), op := (Op.load 9 (Operand.tmp 21)), type := 9, pos := "page.go:46", after := #[{ on := 8, ground := Ground.data }, { on := 7, ground := Ground.guard }], guard := (some (7, true)) } : Oper)) (v := ?_) rfl (by kernel_rfl) (by kernel_rfl) (by kernel_rfl) (fun _ _ _ h => h) (Or.inl ⟨by rfl, ?_⟩) hHeld ?_
              rotate_left
              · intro w_ hSw; (try dsimp only at hSw); go_simp; try (with_reducible rfl)
              try simp only [Act.put, List.setIfInBounds_toArray, List.set_cons_zero, List.set_cons_succ]
              refine wpAnyH_take (i := 10) (oi := ({ dst := (some 23), op := (Op.fieldAddr 113 (Operand.tmp 1) 1), type := 0, pos := "page.go:46", after := #[{ on := 7, ground := Ground.guard }], guard := (some (7, true)) } : Oper)) (v := ?_) rfl (by kernel_rfl) (by kernel_rfl) (by kernel_rfl) (fun _ _ _ h => h) (Or.inl ⟨by rfl, ?_⟩) hHeld ?_
              rotate_left
              · intro w_ hSw; (try dsimp only at hSw); go_simp; try (with_reducible rfl)
              try simp only [Act.put, List.setIfInBounds_toArray, List.set_cons_zero, List.set_cons_succ]
              refine wpAnyH_take (i := 11) (oi := ({ dst := (some 24), op := (Op.load 25 (Operand.tmp 23)), type := 25, pos := "page.go:46", after := #[{ on := 10, ground := Ground.data }, { on := 7, ground := Ground.guard }], guard := (some (7, true)) } : Oper)) (v := ?_) rfl (by kernel_rfl) (by kernel_rfl) (by kernel_rfl) (fun _ _ _ h => h) (Or.inl ⟨by rfl, ?_⟩) hHeld ?_
              rotate_left
              · intro w_ hSw; (try dsimp only at hSw); go_simp; try (with_reducible rfl)
              try simp only [Act.put, List.setIfInBounds_toArray, List.set_cons_zero, List.set_cons_succ]
              refine wpAnyH_take (i := 12) (oi := ({ dst := (some 25), op := (Op.move (Operand.tmp 3)), type := 3, pos := "page.go:46", after := #[{ on := 7, ground := Ground.guard }], guard := (some (7, true)) } : Oper)) (v := ?_) rfl (by kernel_rfl) (by kernel_rfl) (by kernel_rfl) (fun _ _ _ h => h) (Or.inl ⟨by rfl, ?_⟩) hHeld ?_
              rotate_left
              · intro w_ hSw; (try dsimp only at hSw); go_simp; try (with_reducible rfl)
              try simp only [Act.put, List.setIfInBounds_toArray, List.set_cons_zero, List.set_cons_succ]
              refine wpAnyH_take (i := 13) (oi := ({ dst := (some 26), op := (Op.binOp BinOp.sub 3 (Operand.tmp 25) (Operand.const (Value.int IntKind.i64 1)) 3), type := 3, pos := "page.go:46", after := #[{ on := 12, ground := Ground.data }, { on := 7, ground := Ground.guard }], guard := (some (7, true)) } : Oper)) (v := ?_) rfl (by kernel_rfl) (by kernel_rfl) (by kernel_rfl) (fun _ _ _ h => h) (Or.inl ⟨by rfl, ?_⟩) hHeld ?_
              rotate_left
              · intro w_ hSw; (try dsimp only at hSw); go_simp; try (with_reducible rfl)
              try simp only [Act.put, List.setIfInBounds_toArray, List.set_cons_zero, List.set_cons_succ]
              refine wpAnyH_take (i := 14) (oi := ({ dst := (some 27), op := (Op.indexAddr 25 (Operand.tmp 24) (Operand.tmp 26)), type := 0, pos := "page.go:46", after := #[{ on := 11, ground := Ground.data }, { on := 13, ground := Ground.data }, { on := 7, ground := Ground.guard }], guard := (some (7, true)) } : Oper)) (v := ?_) rfl (by kernel_rfl) (by kernel_rfl) (by kernel_rfl) (fun _ _ _ h => h) (Or.inl ⟨by rfl, ?_⟩) hHeld ?_
              rotate_left
              · intro w_ hSw; (try dsimp only at hSw); go_simp; try (with_reducible rfl)
              try simp only [Act.put, List.setIfInBounds_toArray, List.set_cons_zero, List.set_cons_succ]
              refine wpAnyH_take (i := 15) (oi := ({ dst := (some 28), op := (Op.fieldAddr 66 (Operand.tmp 27) 0), type := 0, pos := "page.go:46", after := #[{ on := 14, ground := Ground.data }, { on := 7, ground := Ground.guard }], guard := (some (7, true)) } : Oper)) (v := ?_) rfl (by kernel_rfl) (by kernel_rfl) (by kernel_rfl) (fun _ _ _ h => h) (Or.inl ⟨by rfl, ?_⟩) hHeld ?_
              rotate_left
              · intro w_ hSw; (try dsimp only at hSw); go_simp; try (with_reducible rfl)
              try simp only [Act.put, List.setIfInBounds_toArray, List.set_cons_zero, List.set_cons_succ]
              refine wpAnyH_take (i := 16) (oi := ({ dst := (some 29), op := (Op.load 9 (Operand.tmp 28)), type := 9, pos := "page.go:46", after := #[{ on := 15, ground := Ground.data }, { on := 7, ground := Ground.guard }], guard := (some (7, true)) } : Oper)) (v := ?_) rfl (by kernel_rfl) (by kernel_rfl) (by kernel_rfl) (fun _ _ _ h => h) (Or.inl ⟨by rfl, ?_⟩) hHeld ?_
              rotate_left
              · intro w_ hSw; (try dsimp only at hSw); go_simp; try (with_reducible rfl)
              try simp only [Act.put, List.setIfInBounds_toArray, List.set_cons_zero, List.set_cons_succ]
              refine wpAnyH_take (i := 17) (oi := ({ dst := (some 30), op := (Op.binOp BinOp.leq 9 (Operand.tmp 22) (Operand.tmp 29) 9), type := 4, pos := "page.go:46", after := #[{ on := 9, ground := Ground.data }, { on := 16, ground := Ground.data }, { on := 7, ground := Ground.guard }], guard := (some (7, true)) } : Oper)) (v := ?_) rfl (by kernel_rfl) (by kernel_rfl) (by kernel_rfl) (fun _ _ _ h => h) (Or.inl ⟨by rfl, ?_⟩) hHeld ?_
              rotate_left
              · intro w_ hSw; (try dsimp only at hSw); go_simp; try (with_reducible rfl)
              try simp only [Act.put, List.setIfInBounds_toArray, List.set_cons_zero, List.set_cons_succ]
              refine wpAnyH_take (i := 18) (oi := ({ dst := (some 31), op := (Op.pick (Operand.tmp 20) (Operand.tmp 30) (Operand.const (Value.bool false))), type := 4, pos := "page.go:46", after := #[{ on := 7, ground := Ground.data }, { on := 17, ground := Ground.data }, { on := 4, ground := Ground.guard }], guard := (some (4, false)) } : Oper)) (v := ?_) rfl (by kernel_rfl) (by kernel_rfl) (by kernel_rfl) (fun _ _ _ h => h) (Or.inl ⟨by rfl, ?_⟩) hHeld ?_
              rotate_left
              · intro w_ hSw; (try dsimp only at hSw); go_simp; try (with_reducible rfl)
              try simp only [Act.put, List.setIfInBounds_toArray, List.set_cons_zero, List.set_cons_succ]
              refine wpAnyH_take (i := 19) (oi := ({ dst := (some 32), op := (Op.pick (Operand.tmp 17) (Operand.const (Value.bool true)) (Operand.tmp 31)), type := 4, pos := "page.go:46", after := #[{ on := 4, ground := Ground.data }, { on := 18, ground := Ground.data }], guard := none } : Oper)) (v := ?_) rfl (by kernel_rfl) (by kernel_rfl) (by kernel_rfl) (fun _ _ _ h => h) (Or.inl ⟨by rfl, ?_⟩) hHeld ?_
              rotate_left
              · intro w_ hSw; (try dsimp only at hSw); go_simp; try (with_reducible rfl)
              try simp only [Act.put, List.setIfInBounds_toArray, List.set_cons_zero, List.set_cons_succ]
              refine wpAnyH_take (i := 20) (oi := ({ dst := (some 33), op := (Op.move (Operand.tmp 32)), type := 4, pos := "page.go:46", after := #[{ on := 19, ground := Ground.data }, { on := 7, ground := Ground.chain }], guard := none } : Oper)) (v := ?_) rfl (by kernel_rfl) (by kernel_rfl) (by kernel_rfl) (fun _ _ _ h => h) (Or.inl ⟨by rfl, ?_⟩) hHeld ?_
              rotate_left
              · intro w_ hSw; (try dsimp only at hSw); go_simp; try (with_reducible rfl)
              try simp only [Act.put, List.setIfInBounds_toArray, List.set_cons_zero, List.set_cons_succ]
              refine wpAnyH_take (i := 21) (oi := ({ dst := (some 34), op := (Op.fieldAddr 66 (Operand.tmp 4) 2), type := 0, pos := "page.go:46", after := #[{ on := 20, ground := Ground.guard }], guard := (some (20, false)) } : Oper)) (v := ?_) rfl (by kernel_rfl) (by kernel_rfl) (by kernel_rfl) (fun _ _ _ h => h) (Or.inl ⟨by rfl, ?_⟩) hHeld ?_
              rotate_left
              · intro w_ hSw; (try dsimp only at hSw); go_simp; try (with_reducible rfl)
              try simp only [Act.put, List.setIfInBounds_toArray, List.set_cons_zero, List.set_cons_succ]
              refine wpAnyH_take (i := 22) (oi := ({ dst := (some 35), op := (Op.load 3 (Operand.tmp 34)), type := 3, pos := "page.go:46", after := #[{ on := 21, ground := Ground.data }, { on := 20, ground := Ground.guard }], guard := (some (20, false)) } : Oper)) (v := ?_) rfl (by kernel_rfl) (by kernel_rfl) (by kernel_rfl) (fun _ _ _ h => h) (Or.inl ⟨by rfl, ?_⟩) hHeld ?_
              rotate_left
              · intro w_ hSw; (try dsimp only at hSw); go_simp; try (with_reducible rfl)
              try simp only [Act.put, List.setIfInBounds_toArray, List.set_cons_zero, List.set_cons_succ]
              refine wpAnyH_take (i := 23) (oi := ({ dst := (some 36), op := (Op.binOp BinOp.lss 3 (Operand.tmp 35) (Operand.const (Value.int IntKind.i64 1)) 3), type := 4, pos := "page.go:46", after := #[{ on := 22, ground := Ground.data }, { on := 20, ground := Ground.guard }], guard := (some (20, false)) } : Oper)) (v := ?_) rfl (by kernel_rfl) (by kernel_rfl) (by kernel_rfl) (fun _ _ _ h => h) (Or.inl ⟨by rfl, ?_⟩) hHeld ?_
              rotate_left
              · intro w_ hSw; (try dsimp only at hSw); go_simp; try (with_reducible rfl)
              try simp only [Act.put, List.setIfInBounds_toArray, List.set_cons_zero, List.set_cons_succ]
              refine wpAnyH_take (i := 24) (oi := ({ dst := (some 37), op := (Op.pick (Operand.tmp 33) (Operand.const (Value.bool true)) (Operand.tmp 36)), type := 4, pos := "page.go:46", after := #[{ on := 20, ground := Ground.data }, { on := 23, ground := Ground.data }], guard := none } : Oper)) (v := ?_) rfl (by kernel_rfl) (by kernel_rfl) (by kernel_rfl) (fun _ _ _ h => h) (Or.inl ⟨by rfl, ?_⟩) hHeld ?_
              rotate_left
              · intro w_ hSw; (try dsimp only at hSw); go_simp; try (with_reducible rfl)
              try simp only [Act.put, List.setIfInBounds_toArray, List.set_cons_zero, List.set_cons_succ]
              refine wpAnyH_take (i := 25) (oi := ({ dst := (some 38), op := (Op.move (Operand.tmp 37)), type := 4, pos := "page.go:46", after := #[{ on := 24, ground := Ground.data }, { on := 20, ground := Ground.chain }], guard := none } : Oper)) (v := ?_) rfl (by kernel_rfl) (by kernel_rfl) (by kernel_rfl) (fun _ _ _ h => h) (Or.inl ⟨by rfl, ?_⟩) hHeld ?_
              rotate_left
              · intro w_ hSw; (try dsimp only at hSw); go_simp; try (with_reducible rfl)
              try simp only [Act.put, List.setIfInBounds_toArray, List.set_cons_zero, List.set_cons_succ]
              refine wpAnyH_take (i := 26) (oi := ({ dst := (some 39), op := (Op.fieldAddr 66 (Operand.tmp 4) 2), type := 0, pos := "page.go:46", after := #[{ on := 25, ground := Ground.guard }], guard := (some (25, false)) } : Oper)) (v := ?_) rfl (by kernel_rfl) (by kernel_rfl) (by kernel_rfl) (fun _ _ _ h => h) (Or.inl ⟨by rfl, ?_⟩) hHeld ?_
              rotate_left
              · intro w_ hSw; (try dsimp only at hSw); go_simp; try (with_reducible rfl)
              try simp only [Act.put, List.setIfInBounds_toArray, List.set_cons_zero, List.set_cons_succ]
              refine wpAnyH_take (i := 27) (oi := ({ dst := (some 40), op := (Op.load 3 (Operand.tmp 39)), type := 3, pos := "page.go:46", after := #[{ on := 26, ground := Ground.data }, { on := 25, ground := Ground.guard }], guard := (some (25, false)) } : Oper)) (v := ?_) rfl (by kernel_rfl) (by kernel_rfl) (by kernel_rfl) (fun _ _ _ h => h) (Or.inl ⟨by rfl, ?_⟩) hHeld ?_
              rotate_left
              · intro w_ hSw; (try dsimp only at hSw); go_simp; try (with_reducible rfl)
              try simp only [Act.put, List.setIfInBounds_toArray, List.set_cons_zero, List.set_cons_succ]
              refine wpAnyH_take (i := 28) (oi := ({ dst := (some 41), op := (Op.binOp BinOp.gtr 3 (Operand.tmp 40) (Operand.const (Value.int IntKind.i64 65536)) 3), type := 4, pos := "page.go:46", after := #[{ on := 27, ground := Ground.data }, { on := 25, ground := Ground.guard }], guard := (some (25, false)) } : Oper)) (v := ?_) rfl (by kernel_rfl) (by kernel_rfl) (by kernel_rfl) (fun _ _ _ h => h) (Or.inl ⟨by rfl, ?_⟩) hHeld ?_
              rotate_left
              · intro w_ hSw; (try dsimp only at hSw); go_simp; try (with_reducible rfl)
              try simp only [Act.put, List.setIfInBounds_toArray, List.set_cons_zero, List.set_cons_succ]
              refine wpAnyH_take (i := 29) (oi := ({ dst := (some 42), op := (Op.pick (Operand.tmp 38) (Operand.const (Value.bool true)) (Operand.tmp 41)), type := 4, pos := "page.go:46", after := #[{ on := 25, ground := Ground.data }, { on := 28, ground := Ground.data }], guard := none } : Oper)) (v := ?_) rfl (by kernel_rfl) (by kernel_rfl) (by kernel_rfl) (fun _ _ _ h => h) (Or.inl ⟨by rfl, ?_⟩) hHeld ?_
              rotate_left
              · intro w_ hSw; (try dsimp only at hSw); go_simp; try (with_reducible rfl)
              try simp only [Act.put, List.setIfInBounds_toArray, List.set_cons_zero, List.set_cons_succ]
              refine wpAnyH_done (by kernel_rfl) ?_ _
              go_wp2_with fail
              have HPn := Aside0.mk HP.out.drop1
              clear HP
              go_roundg (gk - 1)
              case measure => have := HK.out; have := (List.getElem?_eq_some_iff.1 HY.out).1; omega
              case rel => exact ⟨j + 1, x + 1, rfl, ⟨by have := HX.out; omega⟩, ⟨by have := HK.out; have := (List.getElem?_eq_some_iff.1 HY.out).1; omega⟩, ⟨by rw [linksTo_succ, HG.out, HYD.out, HPD.out]; simp [*]⟩, HPn⟩
        | false =>
          have hle : (Op.bytesLess y.f0.toList p.f0.toList || y.f0.toList == p.f0.toList) = true := by rw [less_tri, Bool.not_eq_false'] at hbl; exact hbl
          refine held_named (S := (fun w' => w'.cell? ⟨gx, 0, none⟩ = some (.string y.f0) ∧ w'.cell? ⟨gx, 33, none⟩ = some (.int .i64 y.f2) ∧ w'.cell? ⟨g1, 1, none⟩ = some (.slice (some ⟨Ab, Ao, none⟩) l.length c) ∧ w'.cell? ⟨Ab, Ao + (x.toNat - 1) * 34, none⟩ = some (.string p.f0))) (by kernel_rfl) (fun wd6 hwd6 => ?_)
          have HPn := Aside0.mk (HP.out.drewN 1)
          rw [← World.drew_is_drewN, hwd6] at HPn
          clear HP hwd6
          have HP := HPn
          clear HPn
          refine ⟨by (try dsimp only); exact ⟨cell_f (HP.out.blk 0 rfl), cell_n (HP.out.blk 0 rfl), blk_cell (HP.out.blk 1 rfl) 1, HPV.out _ HP.out.below⟩, fun hHeld => ?_⟩
          refine wpAnyH_take (i := 0) (oi := ({ dst := (some 13), op := (Op.fieldAddr 66 (Operand.tmp 4) 0), type := 0, pos := "page.go:46", after := #[], guard := none } : Oper)) (v := ?_) rfl (by kernel_rfl) (by kernel_rfl) (by kernel_rfl) (fun _ _ _ h => h) (Or.inl ⟨by rfl, ?_⟩) hHeld ?_
          rotate_left
          · intro w_ hSw; (try dsimp only at hSw); go_simp; try (with_reducible rfl)
          try simp only [Act.put, List.setIfInBounds_toArray, List.set_cons_zero, List.set_cons_succ]
          refine wpAnyH_take (i := 1) (oi := ({ dst := (some 14), op := (Op.load 9 (Operand.tmp 13)), type := 9, pos := "page.go:46", after := #[{ on := 0, ground := Ground.data }], guard := none } : Oper)) (v := ?_) rfl (by kernel_rfl) (by kernel_rfl) (by kernel_rfl) (fun _ _ _ h => h) (Or.inl ⟨by rfl, ?_⟩) hHeld ?_
          rotate_left
          · intro w_ hSw; (try dsimp only at hSw); go_simp; try (with_reducible rfl)
          try simp only [Act.put, List.setIfInBounds_toArray, List.set_cons_zero, List.set_cons_succ]
          refine wpAnyH_ready (rs := [2]) (by kernel_rfl) (by simp) ?_
          refine AllReadyH.cons (o := ({ dst := (some 15), op := (Op.call { callee := (Callee.value (Operand.func 60)), args := #[(Operand.tmp 14)], argTypes := #[9] }), type := 4, pos := "page.go:46", after := #[{ on := 1, ground := Ground.data }], guard := none } : Oper)) rfl (fun K hK => ?_) AllReadyH.nil
          go_simp
          go_at_call 60; refine (c_key _ _).mono ?_; rintro e w_ ⟨rfl, rfl⟩; (try rw [hkey])
          go_wp2_with fail
          clear hHeld
          refine hK.out _ _ ?_ (fun hHeld => ?_)
          · (try dsimp only); exact ⟨cell_f (HP.out.blk 0 rfl), cell_n (HP.out.blk 0 rfl), blk_cell (HP.out.blk 1 rfl) 1, HPV.out _ HP.out.below⟩
          clear hK K
          try simp only [Act.put, List.setIfInBounds_toArray, List.set_cons_zero, List.set_cons_succ]
          refine wpAnyH_take (i := 3) (oi := ({ dst := (some 16), op := (Op.unOp UnOp.not 4 (Operand.tmp 15)), type := 4, pos := "page.go:46", after := #[{ on := 2, ground := Ground.data }], guard := none } : Oper)) (v := ?_) rfl (by kernel_rfl) (by kernel_rfl) (by kernel_rfl) (fun _ _ _ h => h) (Or.inl ⟨by rfl, ?_⟩) hHeld ?_
          rotate_left
          · intro w_ hSw; (try dsimp only at hSw); go_simp; try (with_reducible rfl)
          try simp only [Act.put, List.setIfInBounds_toArray, List.set_cons_zero, List.set_cons_succ]
          refine wpAnyH_take (i := 4) (oi := ({ dst := (some 17), op := (Op.move (Operand.tmp 16)), type := 4, pos := "page.go:46", after := #[{ on := 3, ground := Ground.data }, { on := 2, ground := Ground.chain }], guard := none } : Oper)) (v := ?_) rfl (by kernel_rfl) (by kernel_rfl) (by kernel_rfl) (fun _ _ _ h => h) (Or.inl ⟨by rfl, ?_⟩) hHeld ?_
          rotate_left
          · intro w_ hSw; (try dsimp only at hSw); go_simp; try (with_reducible rfl)
          try simp only [Act.put, List.setIfInBounds_toArray, List.set_cons_zero, List.set_cons_succ]
          refine wpAnyH_take (i := 5) (oi := ({ dst := (some 18), op := (Op.move (Operand.tmp 3)), type := 3, pos := "page.go:46", after := #[{ on := 4, ground := Ground.guard }], guard := (some (4, false)) } : Oper)) (v := ?_) rfl (by kernel_rfl) (by kernel_rfl) (by kernel_rfl) (fun _ _ _ h => h) (Or.inl ⟨by rfl, ?_⟩) hHeld ?_
          rotate_left
          · intro w_ hSw; (try dsimp only at hSw); go_simp; try (with_reducible rfl)
          try simp only [Act.put, List.setIfInBounds_toArray, List.set_cons_zero, List.set_cons_succ]
          refine wpAnyH_take (i := 6) (oi := ({ dst := (some 19), op := (Op.binOp BinOp.gtr 3 (Operand.tmp 18) (Operand.const (Value.int IntKind.i64 0)) 3), type := 4, pos := "page.go:46", after := #[{ on := 5, ground := Ground.data }, { on := 4, ground := Ground.guard }], guard := (some (4, false)) } : Oper)) (v := ?_) rfl (by kernel_rfl) (by kernel_rfl) (by kernel_rfl) (fun _ _ _ h => h) (Or.inl ⟨by rfl, ?_⟩) hHeld ?_
          rotate_left
          · intro w_ hSw; (try dsimp only at hSw); go_simp; try (with_reducible rfl)
          try simp only [Act.put, List.setIfInBounds_toArray, List.set_cons_zero, List.set_cons_succ]
          refine wpAnyH_take (i := 7) (oi := ({ dst := (some 20), op := (Op.move (Operand.tmp 19)), type := 4, pos := "page.go:46", after := #[{ on := 6, ground := Ground.data }, { on := 4, ground := Ground.chain }, { on := 4, ground := Ground.guard }], guard := (some (4, false)) } : Oper)) (v := ?_) rfl (by kernel_rfl) (by kernel_rfl) (by kernel_rfl) (fun _ _ _ h => h) (Or.inl ⟨by rfl, ?_⟩) hHeld ?_
          rotate_left
          · intro w_ hSw; (try dsimp only at hSw); go_simp; try (with_reducible rfl)
          try simp only [Act.put, List.setIfInBounds_toArray, List.set_cons_zero, List.set_cons_succ]
          refine wpAnyH_take (i := 8) (oi := ({ dst := (some 21), op := (Op.fieldAddr 66 (Operand.tmp 4) 0), type := 0, pos := "page.go:46", after := #[{ on := 7, ground := Ground.guard }], guard := (some (7, true)) } : Oper)) (v := ?_) rfl (by kernel_rfl) (by kernel_rfl) (by kernel_rfl) (fun _ _ _ h => h) (Or.inl ⟨by rfl, ?_⟩) hHeld ?_
          rotate_left
          · intro w_ hSw; (try dsimp only at hSw); go_simp; try (with_reducible rfl)
          try simp only [Act.put, List.setIfInBounds_toArray, List.set_cons_zero, List.set_cons_succ]
          refine wpAnyH_take (i := 9) (oi := ({ dst := (some 22), op := (Op.load 9 (Operand.tmp 21)), type := 9, pos := "page.go:46", after := #[{ on := 8, ground := Ground.data }, { on := 7, ground := Ground.guard }], guard := (some (7, true)) } : Oper)) (v := ?_) rfl (by kernel_rfl) (by kernel_rfl) (by kernel_rfl) (fun _ _ _ h => h) (Or.inl ⟨by rfl, ?_⟩) hHeld ?_
          rotate_left
          · intro w_ hSw; (try dsimp only at hSw); go_simp; try (with_reducible rfl)
          try simp only [Act.put, List.setIfInBounds_toArray, List.set_cons_zero, List.set_cons_succ]
          refine wpAnyH_take (i := 10) (oi := ({ dst := (some 23), op := (Op.fieldAddr 113 (Operand.tmp 1) 1), type := 0, pos := "page.go:46", after := #[{ on := 7, ground := Ground.guard }], guard := (some (7, true)) } : Oper)) (v := ?_) rfl (by kernel_rfl) (by kernel_rfl) (by kernel_rfl) (fun _ _ _ h => h) (Or.inl ⟨by rfl, ?_⟩) hHeld ?_
          rotate_left
          · intro w_ hSw; (try dsimp only at hSw); go_simp; try (with_reducible rfl)
          try simp only [Act.put, List.setIfInBounds_toArray, List.set_cons_zero, List.set_cons_succ]
          refine wpAnyH_take (i := 11) (oi := ({ dst := (some 24), op := (Op.load 25 (Operand.tmp 23)), type := 25, pos := "page.go:46", after := #[{ on := 10, ground := Ground.data }, { on := 7, ground := Ground.guard }], guard := (some (7, true)) } : Oper)) (v := ?_) rfl (by kernel_rfl) (by kernel_rfl) (by kernel_rfl) (fun _ _ _ h => h) (Or.inl ⟨by rfl, ?_⟩) hHeld ?_
          rotate_left
          · intro w_ hSw; (try dsimp only at hSw); go_simp; try (with_reducible rfl)
          try simp only [Act.put, List.setIfInBounds_toArray, List.set_cons_zero, List.set_cons_succ]
          refine wpAnyH_take (i := 12) (oi := ({ dst := (some 25), op := (Op.move (Operand.tmp 3)), type := 3, pos := "page.go:46", after := #[{ on := 7, ground := Ground.guard }], guard := (some (7, true)) } : Oper)) (v := ?_) rfl (by kernel_rfl) (by kernel_rfl) (by kernel_rfl) (fun _ _ _ h => h) (Or.inl ⟨by rfl, ?_⟩) hHeld ?_
          rotate_left
          · intro w_ hSw; (try dsimp only at hSw); go_simp; try (with_reducible rfl)
          try simp only [Act.put, List.setIfInBounds_toArray, List.set_cons_zero, List.set_cons_succ]
          refine wpAnyH_take (i := 13) (oi := ({ dst := (some 26), op := (Op.binOp BinOp.sub 3 (Operand.tmp 25) (Operand.const (Value.int IntKind.i64 1)) 3), type := 3, pos := "page.go:46", after := #[{ on := 12, ground := Ground.data }, { on := 7, ground := Ground.guard }], guard := (some (7, true)) } : Oper)) (v := ?_) rfl (by kernel_rfl) (by kernel_rfl) (by kernel_rfl) (fun _ _ _ h => h) (Or.inl ⟨by rfl, ?_⟩) hHeld ?_
          rotate_left
          · intro w_ hSw; (try dsimp only at hSw); go_simp; try (with_reducible rfl)
          try simp only [Act.put, List.setIfInBounds_toArray, List.set_cons_zero, List.set_cons_succ]
          refine wpAnyH_take (i := 14) (oi := ({ dst := (some 27), op := (Op.indexAddr 25 (Operand.tmp 24) (Operand.tmp 26)), type := 0, pos := "page.go:46", after := #[{ on := 11, ground := Ground.data }, { on := 13, ground := Ground.data }, { on := 7, ground := Ground.guard }], guard := (some (7, true)) } : Oper)) (v := ?_) rfl (by kernel_rfl) (by kernel_rfl) (by kernel_rfl) (fun _ _ _ h => h) (Or.inl ⟨by rfl, ?_⟩) hHeld ?_
          rotate_left
          · intro w_ hSw; (try dsimp only at hSw); go_simp; try (with_reducible rfl)
          try simp only [Act.put, List.setIfInBounds_toArray, List.set_cons_zero, List.set_cons_succ]
          refine wpAnyH_take (i := 15) (oi := ({ dst := (some 28), op := (Op.fieldAddr 66 (Operand.tmp 27) 0), type := 0, pos := "page.go:46", after := #[{ on := 14, ground := Ground.data }, { on := 7, ground := Ground.guard }], guard := (some (7, true)) } : Oper)) (v := ?_) rfl (by kernel_rfl) (by kernel_rfl) (by kernel_rfl) (fun _ _ _ h => h) (Or.inl ⟨by rfl, ?_⟩) hHeld ?_
          rotate_left
          · intro w_ hSw; (try dsimp only at hSw); go_simp; try (with_reducible rfl)
          try simp only [Act.put, List.setIfInBounds_toArray, List.set_cons_zero, List.set_cons_succ]
          refine wpAnyH_take (i := 16) (oi := ({ dst := (some 29), op := (Op.load 9 (Operand.tmp 28)), type := 9, pos := "page.go:46", after := #[{ on := 15, ground := Ground.data }, { on := 7, ground := Ground.guard }], guard := (some (7, true)) } : Oper)) (v := ?_) rfl (by kernel_rfl) (by kernel_rfl) (by kernel_rfl) (fun _ _ _ h => h) (Or.inl ⟨by rfl, ?_⟩) hHeld ?_
          rotate_left
          · intro w_ hSw; (try dsimp only at hSw); go_simp; try (with_reducible rfl)
          try simp only [Act.put, List.setIfInBounds_toArray, List.set_cons_zero, List.set_cons_succ]
          refine wpAnyH_take (i := 17) (oi := ({ dst := (some 30), op := (Op.binOp BinOp.leq 9 (Operand.tmp 22) (Operand.tmp 29) 9), type := 4, pos := "page.go:46", after := #[{ on := 9, ground := Ground.data }, { on := 16, ground := Ground.data }, { on := 7, ground := Ground.guard }], guard := (some (7, true)) } : Oper)) (v := ?_) rfl (by kernel_rfl) (by kernel_rfl) (by kernel_rfl) (fun _ _ _ h => h) (Or.inl ⟨by rfl, ?_⟩) hHeld ?_
          rotate_left
          · intro w_ hSw; (try dsimp only at hSw); go_simp; try (with_reducible rfl)
          try simp only [Act.put, List.setIfInBounds_toArray, List.set_cons_zero, List.set_cons_succ]
          refine wpAnyH_take (i := 18) (oi := ({ dst := (some 31), op := (Op.pick (Operand.tmp 20) (Operand.tmp 30) (Operand.const (Value.bool false))), type := 4, pos := "page.go:46", after := #[{ on := 7, ground := Ground.data }, { on := 17, ground := Ground.data }, { on := 4, ground := Ground.guard }], guard := (some (4, false)) } : Oper)) (v := ?_) rfl (by kernel_rfl) (by kernel_rfl) (by kernel_rfl) (fun _ _ _ h => h) (Or.inl ⟨by rfl, ?_⟩) hHeld ?_
          rotate_left
          · intro w_ hSw; (try dsimp only at hSw); go_simp; try (with_reducible rfl)
          try simp only [Act.put, List.setIfInBounds_toArray, List.set_cons_zero, List.set_cons_succ]
          refine wpAnyH_take (i := 19) (oi := ({ dst := (some 32), op := (Op.pick (Operand.tmp 17) (Operand.const (Value.bool true)) (Operand.tmp 31)), type := 4, pos := "page.go:46", after := #[{ on := 4, ground := Ground.data }, { on := 18, ground := Ground.data }], guard := none } : Oper)) (v := ?_) rfl (by kernel_rfl) (by kernel_rfl) (by kernel_rfl) (fun _ _ _ h => h) (Or.inl ⟨by rfl, ?_⟩) hHeld ?_
          rotate_left
          · intro w_ hSw; (try dsimp only at hSw); go_simp; try (with_reducible rfl)
          try simp only [Act.put, List.setIfInBounds_toArray, List.set_cons_zero, List.set_cons_succ]
          refine wpAnyH_take (i := 20) (oi := ({ dst := (some 33), op := (Op.move (Operand.tmp 32)), type := 4, pos := "page.go:46", after := #[{ on := 19, ground := Ground.data }, { on := 7, ground := Ground.chain }], guard := none } : Oper)) (v := ?_) rfl (by kernel_rfl) (by kernel_rfl) (by kernel_rfl) (fun _ _ _ h => h) (Or.inl ⟨by rfl, ?_⟩) hHeld ?_
          rotate_left
          · intro w_ hSw; (try dsimp only at hSw); go_simp; try (with_reducible rfl)
          try simp only [Act.put, List.setIfInBounds_toArray, List.set_cons_zero, List.set_cons_succ]
          refine wpAnyH_take (i := 21) (oi := ({ dst := (some 34), op := (Op.fieldAddr 66 (Operand.tmp 4) 2), type := 0, pos := "page.go:46", after := #[{ on := 20, ground := Ground.guard }], guard := (some (20, false)) } : Oper)) (v := _) rfl (by kernel_rfl) (by kernel_rfl) (by kernel_rfl) (fun _ _ _ h => h) (Or.inr ⟨by rfl, rfl⟩) hHeld ?_
          try simp only [Act.put, List.setIfInBounds_toArray, List.set_cons_zero, List.set_cons_succ]
          refine wpAnyH_take (i := 22) (oi := ({ dst := (some 35), op := (Op.load 3 (Operand.tmp 34)), type := 3, pos := "page.go:46", after := #[{ on := 21, ground := Ground.data }, { on := 20, ground := Ground.guard }], guard := (some (20, false)) } : Oper)) (v := _) rfl (by kernel_rfl) (by kernel_rfl) (by kernel_rfl) (fun _ _ _ h => h) (Or.inr ⟨by rfl, rfl⟩) hHeld ?_
          try simp only [Act.put, List.setIfInBounds_toArray, List.set_cons_zero, List.set_cons_succ]
          refine wpAnyH_take (i := 23) (oi := ({ dst := (some 36), op := (Op.binOp BinOp.lss 3 (Operand.tmp 35) (Operand.const (Value.int IntKind.i64 1)) 3), type := 4, pos := "page.go:46", after := #[{ on := 22, ground := Ground.data }, { on := 20, ground := Ground.guard }], guard := (some (20, false)) } : Oper)) (v := _) rfl (by kernel_rfl) (by kernel_rfl) (by kernel_rfl) (fun _ _ _ h => h) (Or.inr ⟨by rfl, rfl⟩) hHeld ?_
          try simp only [Act.put, List.setIfInBounds_toArray, List.set_cons_zero, List.set_cons_succ]
          refine wpAnyH_take (i := 24) (oi := ({ dst := (some 37), op := (Op.pick (Operand.tmp 33) (Operand.const (Value.bool true)) (Operand.tmp 36)), type := 4, pos := "page.go:46", after := #[{ on := 20, ground := Ground.data }, { on := 23, ground := Ground.data }], guard := none } : Oper)) (v := ?_) rfl (by kernel_rfl) (by kernel_rfl) (by kernel_rfl) (fun _ _ _ h => h) (Or.inl ⟨by rfl, ?_⟩) hHeld ?_
          rotate_left
          · intro w_ hSw; (try dsimp only at hSw); go_simp; try (with_reducible rfl)
          try simp only [Act.put, List.setIfInBounds_toArray, List.set_cons_zero, List.set_cons_succ]
          refine wpAnyH_take (i := 25) (oi := ({ dst := (some 38), op := (Op.move (Operand.tmp 37)), type := 4, pos := "page.go:46", after := #[{ on := 24, ground := Ground.data }, { on := 20, ground := Ground.chain }], guard := none } : Oper)) (v := ?_) rfl (by kernel_rfl) (by kernel_rfl) (by kernel_rfl) (fun _ _ _ h => h) (Or.inl ⟨by rfl, ?_⟩) hHeld ?_
          rotate_left
          · intro w_ hSw; (try dsimp only at hSw); go_simp; try (with_reducible rfl)
          try simp only [Act.put, List.setIfInBounds_toArray, List.set_cons_zero, List.set_cons_succ]
          refine wpAnyH_take (i := 26) (oi := ({ dst := (some 39), op := (Op.fieldAddr 66 (Operand.tmp 4) 2), type := 0, pos := "page.go:46", after := #[{ on := 25, ground := Ground.guard }], guard := (some (25, false)) } : Oper)) (v := _) rfl (by kernel_rfl) (by kernel_rfl) (by kernel_rfl) (fun _ _ _ h => h) (Or.inr ⟨by rfl, rfl⟩) hHeld ?_
          try simp only [Act.put, List.setIfInBounds_toArray, List.set_cons_zero, List.set_cons_succ]
          refine wpAnyH_take (i := 27) (oi := ({ dst := (some 40), op := (Op.load 3 (Operand.tmp 39)), type := 3, pos := "page.go:46", after := #[{ on := 26, ground := Ground.data }, { on := 25, ground := Ground.guard }], guard := (some (25, false)) } : Oper)) (v := _) rfl (by kernel_rfl) (by kernel_rfl) (by kernel_rfl) (fun _ _ _ h => h) (Or.inr ⟨by rfl, rfl⟩) hHeld ?_
          try simp only [Act.put, List.setIfInBounds_toArray, List.set_cons_zero, List.set_cons_succ]
          refine wpAnyH_take (i := 28) (oi := ({ dst := (some 41), op := (Op.binOp BinOp.gtr 3 (Operand.tmp 40) (Operand.const (Value.int IntKind.i64 65536)) 3), type := 4, pos := "page.go:46", after := #[{ on := 27, ground := Ground.data }, { on := 25, ground := Ground.guard }], guard := (some (25, false)) } : Oper)) (v := _) rfl (by kernel_rfl) (by kernel_rfl) (by kernel_rfl) (fun _ _ _ h => h) (Or.inr ⟨by rfl, rfl⟩) hHeld ?_
          try simp only [Act.put, List.setIfInBounds_toArray, List.set_cons_zero, List.set_cons_succ]
          refine wpAnyH_take (i := 29) (oi := ({ dst := (some 42), op := (Op.pick (Operand.tmp 38) (Operand.const (Value.bool true)) (Operand.tmp 41)), type := 4, pos := "page.go:46", after := #[{ on := 25, ground := Ground.data }, { on := 28, ground := Ground.data }], guard := none } : Oper)) (v := ?_) rfl (by kernel_rfl) (by kernel_rfl) (by kernel_rfl) (fun _ _ _ h => h) (Or.inl ⟨by rfl, ?_⟩) hHeld ?_
          rotate_left
          · intro w_ hSw; (try dsimp only at hSw); go_simp; try (with_reducible rfl)
          try simp only [Act.put, List.setIfInBounds_toArray, List.set_cons_zero, List.set_cons_succ]
          refine wpAnyH_done (by kernel_rfl) ?_ _
          go_wp2_with fail
          go_ret
          exact ⟨by rw [HBAD.out (by rw [HPD.out] <;> (simp [*] <;> omega))]; rfl, HP.out.below⟩
    · have hkey : keyOk y.f0 = false := by simpa using ck
      have HPD := Aside0.mk (show linkAt l j y = false from by unfold linkAt; rw [hkey]; rfl)
      clear ck hx c1
      refine held_named (S := (fun w' => w'.cell? ⟨gx, 0, none⟩ = some (.string y.f0) ∧ w'.cell? ⟨gx, 33, none⟩ = some (.int .i64 y.f2))) (by kernel_rfl) (fun wd6 hwd6 => ?_)
      have HPn := Aside0.mk (HP.out.drewN 1)
      rw [← World.drew_is_drewN, hwd6] at HPn
      clear HP hwd6
      have HP := HPn
      clear HPn
      refine ⟨by (try dsimp only); exact ⟨cell_f (HP.out.blk 0 rfl), cell_n (HP.out.blk 0 rfl)⟩, fun hHeld => ?_⟩
      refine wpAnyH_take (i := 0) (oi := ({ dst := (some 13), op := (Op.fieldAddr 66 (Operand.tmp 4) 0), type := 0, pos := "page.go:46", after := #[], guard := none } : Oper)) (v := ?_) rfl (by kernel_rfl) (by kernel_rfl) (by kernel_rfl) (fun _ _ _ h => h) (Or.inl ⟨by rfl, ?_⟩) hHeld ?_
      rotate_left
      · intro w_ hSw; (try dsimp only at hSw); go_simp; try (with_reducible rfl)
      try simp only [Act.put, List.setIfInBounds_toArray, List.set_cons_zero, List.set_cons_succ]
      refine wpAnyH_take (i := 1) (oi := ({ dst := (some 14), op := (Op.load 9 (Operand.tmp 13)), type := 9, pos := "page.go:46", after := #[{ on := 0, ground := Ground.data }], guard := none } : Oper)) (v := ?_) rfl (by kernel_rfl) (by kernel_rfl) (by kernel_rfl) (fun _ _ _ h => h) (Or.inl ⟨by rfl, ?_⟩) hHeld ?_
      rotate_left
      · intro w_ hSw; (try dsimp only at hSw); go_simp; try (with_reducible rfl)
      try simp only [Act.put, List.setIfInBounds_toArray, List.set_cons_zero, List.set_cons_succ]
      refine wpAnyH_ready (rs := [2]) (by kernel_rfl) (by simp) ?_
      refine AllReadyH.cons (o := ({ dst := (some 15), op := (Op.call { callee := (Callee.value (Operand.func 60)), args := #[(Operand.tmp 14)], argTypes := #[9] }), type := 4, pos := "page.go:46", after := #[{ on := 1, ground := Ground.data }], guard := none } : Oper)) rfl (fun K hK => ?_) AllReadyH.nil
      go_simp
      go_at_call 60; refine (c_key _ _).mono ?_; rintro e w_ ⟨rfl, rfl⟩; (try rw [hkey])
      go_wp2_with fail
      clear hHeld
      refine hK.out _ _ ?_ (fun hHeld => ?_)
      · (try dsimp only); exact ⟨cell_f (HP.out.blk 0 rfl), cell_n (HP.out.blk 0 rfl)⟩
      clear hK K
      try simp only [Act.put, List.setIfInBounds_toArray, List.set_cons_zero, List.set_cons_succ]
      refine wpAnyH_take (i := 3) (oi := ({ dst := (some 16), op := (Op.unOp UnOp.not 4 (Operand.tmp 15)), type := 4, pos := "page.go:46", after := #[{ on := 2, ground := Ground.data }], guard := none } : Oper)) (v := ?_) rfl (by kernel_rfl) (by kernel_rfl) (by kernel_rfl) (fun _ _ _ h => h) (Or.inl ⟨by rfl, ?_⟩) hHeld ?_
      rotate_left
      · intro w_ hSw; (try dsimp only at hSw); go_simp; try (with_reducible rfl)
      try simp only [Act.put, List.setIfInBounds_toArray, List.set_cons_zero, List.set_cons_succ]
      refine wpAnyH_take (i := 4) (oi := ({ dst := (some 17), op := (Op.move (Operand.tmp 16)), type := 4, pos := "page.go:46", after := #[{ on := 3, ground := Ground.data }, { on := 2, ground := Ground.chain }], guard := none } : Oper)) (v := ?_) rfl (by kernel_rfl) (by kernel_rfl) (by kernel_rfl) (fun _ _ _ h => h) (Or.inl ⟨by rfl, ?_⟩) hHeld ?_
      rotate_left
      · intro w_ hSw; (try dsimp only at hSw); go_simp; try (with_reducible rfl)
      try simp only [Act.put, List.setIfInBounds_toArray, List.set_cons_zero, List.set_cons_succ]
      refine wpAnyH_take (i := 5) (oi := ({ dst := (some 18), op := (Op.move (Operand.tmp 3)), type := 3, pos := "page.go:46", after := #[{ on := 4, ground := Ground.guard }], guard := (some (4, false)) } : Oper)) (v := _) rfl (by kernel_rfl) (by kernel_rfl) (by kernel_rfl) (fun _ _ _ h => h) (Or.inr ⟨by rfl, rfl⟩) hHeld ?_
      try simp only [Act.put, List.setIfInBounds_toArray, List.set_cons_zero, List.set_cons_succ]
      refine wpAnyH_take (i := 6) (oi := ({ dst := (some 19), op := (Op.binOp BinOp.gtr 3 (Operand.tmp 18) (Operand.const (Value.int IntKind.i64 0)) 3), type := 4, pos := "page.go:46", after := #[{ on := 5, ground := Ground.data }, { on := 4, ground := Ground.guard }], guard := (some (4, false)) } : Oper)) (v := _) rfl (by kernel_rfl) (by kernel_rfl) (by kernel_rfl) (fun _ _ _ h => h) (Or.inr ⟨by rfl, rfl⟩) hHeld ?_
      try simp only [Act.put, List.setIfInBounds_toArray, List.set_cons_zero, List.set_cons_succ]
      refine wpAnyH_take (i := 7) (oi := ({ dst := (some 20), op := (Op.move (Operand.tmp 19)), type := 4, pos := "page.go:46", after := #[{ on := 6, ground := Ground.data }, { on := 4, ground := Ground.chain }, { on := 4, ground := Ground.guard }], guard := (some (4, false)) } : Oper)) (v := _) rfl (by kernel_rfl) (by kernel_rfl) (by kernel_rfl) (fun _ _ _ h => h) (Or.inr ⟨by rfl, rfl⟩) hHeld ?_
      try simp only [Act.put, List.setIfInBounds_toArray, List.set_cons_zero, List.set_cons_succ]
      refine wpAnyH_take (i := 8) (oi := ({ dst := (some 21), op := (Op.fieldAddr 66 (Operand.tmp 4) 0), type := 0, pos := "page.go:46", after := #[{ on := 7, ground := Ground.guard }], guard := (some (7, true)) } : Oper)) (v := _) rfl (by kernel_rfl) (by kernel_rfl) (by kernel_rfl) (fun _ _ _ h => h) (Or.inr ⟨by rfl, rfl⟩) hHeld ?_
      try simp only [Act.put, List.setIfInBounds_toArray, List.set_cons_zero, List.set_cons_succ]
      refine wpAnyH_take (i := 9) (oi := ({ dst := (some 22), op := (Op.load 9 (Operand.tmp 21)), type := 9, pos := "page.go:46", after := #[{ on := 8, ground := Ground.data }, { on := 7, ground := Ground.guard }], guard := (some (7, true)) } : Oper)) (v := _) rfl (by kernel_rfl) (by kernel_rfl) (by kernel_rfl) (fun _ _ _ h => h) (Or.inr ⟨by rfl, rfl⟩) hHeld ?_
      try simp only [Act.put, List.setIfInBounds_toArray, List.set_cons_zero, List.set_cons_succ]
      refine wpAnyH_take (i := 10) (oi := ({ dst := (some 23), op := (Op.fieldAddr 113 (Operand.tmp 1) 1), type := 0, pos := "page.go:46", after := #[{ on := 7, ground := Ground.guard }], guard := (some (7, true)) } : Oper)) (v := _) rfl (by kernel_rfl) (by kernel_rfl) (by kernel_rfl) (fun _ _ _ h => h) (Or.inr ⟨by rfl, rfl⟩) hHeld ?_
      try simp only [Act.put, List.setIfInBounds_toArray, List.set_cons_zero, List.set_cons_succ]
      refine wpAnyH_take (i := 11) (oi := ({ dst := (some 24), op := (Op.load 25 (Operand.tmp 23)), type := 25, pos := "page.go:46", after := #[{ on := 10, ground := Ground.data }, { on := 7, ground := Ground.guard }], guard := (some (7, true)) } : Oper)) (v := _) rfl (by kernel_rfl) (by kernel_rfl) (by kernel_rfl) (fun _ _ _ h => h) (Or.inr ⟨by rfl, rfl⟩) hHeld ?_
      try simp only [Act.put, List.setIfInBounds_toArray, List.set_cons_zero, List.set_cons_succ]
      refine wpAnyH_take (i := 12) (oi := ({ dst := (some 25), op := (Op.move (Operand.tmp 3)), type := 3, pos := "page.go:46", after := #[{ on := 7, ground := Ground.guard }], guard := (some (7, true)) } : Oper)) (v := _) rfl (by kernel_rfl) (by kernel_rfl) (by kernel_rfl) (fun _ _ _ h => h) (Or.inr ⟨by rfl, rfl⟩) hHeld ?_
      try simp only [Act.put, List.setIfInBounds_toArray, List.set_cons_zero, List.set_cons_succ]
      refine wpAnyH_take (i := 13) (oi := ({ dst := (some 26), op := (Op.binOp BinOp.sub 3 (Operand.tmp 25) (Operand.const (Value.int IntKind.i64 1)) 3), type := 3, pos := "page.go:46", after := #[{ on := 12, ground := Ground.data }, { on := 7, ground := Ground.guard }], guard := (some (7, true)) } : Oper)) (v := _) rfl (by kernel_rfl) (by kernel_rfl) (by kernel_rfl) (fun _ _ _ h => h) (Or.inr ⟨by rfl, rfl⟩) hHeld ?_
      try simp only [Act.put, List.setIfInBounds_toArray, List.set_cons_zero, List.set_cons_succ]
      refine wpAnyH_take (i := 14) (oi := ({ dst := (some 27), op := (Op.indexAddr 25 (Operand.tmp 24) (Operand.tmp 26)), type := 0, pos := "page.go:46", after := #[{ on := 11, ground := Ground.data }, { on := 13, ground := Ground.data }, { on := 7, ground := Ground.guard }], guard := (some (7, true)) } : Oper)) (v := _) rfl (by kernel_rfl) (by kernel_rfl) (by kernel_rfl) (fun _ _ _ h => h) (Or.inr ⟨by rfl, rfl⟩) hHeld ?_
      try simp only [Act.put, List.setIfInBounds_toArray, List.set_cons_zero, List.set_cons_succ]
      refine wpAnyH_take (i := 15) (oi := ({ dst := (some 28), op := (Op.fieldAddr 66 (Operand.tmp 27) 0), type := 0, pos := "page.go:46", after := #[{ on := 14, ground := Ground.data }, { on := 7, ground := Ground.guard }], guard := (some (7, true)) } : Oper)) (v := _) rfl (by kernel_rfl) (by kernel_rfl) (by kernel_rfl) (fun _ _ _ h => h) (Or.inr ⟨by rfl, rfl⟩) hHeld ?_
      try simp only [Act.put, List.setIfInBounds_toArray, List.set_cons_zero, List.set_cons_succ]
      refine wpAnyH_take (i := 16) (oi := ({ dst := (some 29), op := (Op.load 9 (Operand.tmp 28)), type := 9, pos := "page.go:46", after := #[{ on := 15, ground := Ground.data }, { on := 7, ground := Ground.guard }], guard := (some (7, true)) } : Oper)) (v := _) rfl (by kernel_rfl) (by kernel_rfl) (by kernel_rfl) (fun _ _ _ h => h) (Or.inr ⟨by rfl, rfl⟩) hHeld ?_
      try simp only [Act.put, List.setIfInBounds_toArray, List.set_cons_zero, List.set_cons_succ]
      refine wpAnyH_take (i := 17) (oi := ({ dst := (some 30), op := (Op.binOp BinOp.leq 9 (Operand.tmp 22) (Operand.tmp 29) 9), type := 4, pos := "page.go:46", after := #[{ on := 9, ground := Ground.data }, { on := 16, ground := Ground.data }, { on := 7, ground := Ground.guard }], guard := (some (7, true)) } : Oper)) (v := _) rfl (by kernel_rfl) (by kernel_rfl) (by kernel_rfl) (fun _ _ _ h => h) (Or.inr ⟨by rfl, rfl⟩) hHeld ?_
      try simp only [Act.put, List.setIfInBounds_toArray, List.set_cons_zero, List.set_cons_succ]
      refine wpAnyH_take (i := 18) (oi := ({ dst := (some 31), op := (Op.pick (Operand.tmp 20) (Operand.tmp 30) (Operand.const (Value.bool false))), type := 4, pos := "page.go:46", after := #[{ on := 7, ground := Ground.data }, { on := 17, ground := Ground.data }, { on := 4, ground := Ground.guard }], guard := (some (4, false)) } : Oper)) (v := _) rfl (by kernel_rfl) (by kernel_rfl) (by kernel_rfl) (fun _ _ _ h => h) (Or.inr ⟨by rfl, rfl⟩) hHeld ?_
      try simp only [Act.put, List.setIfInBounds_toArray, List.set_cons_zero, List.set_cons_succ]
      refine wpAnyH_take (i := 19) (oi := ({ dst := (some 32), op := (Op.pick (Operand.tmp 17) (Operand.const (Value.bool true)) (Operand.tmp 31)), type := 4, pos := "page.go:46", after := #[{ on := 4, ground := Ground.data }, { on := 18, ground := Ground.data }], guard := none } : Oper)) (v := ?_) rfl (by kernel_rfl) (by kernel_rfl) (by kernel_rfl) (fun _ _ _ h => h) (Or.inl ⟨by rfl, ?_⟩) hHeld ?_
      rotate_left
      · intro w_ hSw; (try dsimp only at hSw); go_simp; try (with_reducible rfl)
      try simp only [Act.put, List.setIfInBounds_toArray, List.set_cons_zero, List.set_cons_succ]
      refine wpAnyH_take (i := 20) (oi := ({ dst := (some 33), op := (Op.move (Operand.tmp 32)), type := 4, pos := "page.go:46", after := #[{ on := 19, ground := Ground.data }, { on := 7, ground := Ground.chain }], guard := none } : Oper)) (v := ?_) rfl (by kernel_rfl) (by kernel_rfl) (by kernel_rfl) (fun _ _ _ h => h) (Or.inl ⟨by rfl, ?_⟩) hHeld ?_
      rotate_left
      · intro w_ hSw; (try dsimp only at hSw); go_simp; try (with_reducible rfl)
      try simp only [Act.put, List.setIfInBounds_toArray, List.set_cons_zero, List.set_cons_succ]
      refine wpAnyH_take (i := 21) (oi := ({ dst := (some 34), op := (Op.fieldAddr 66 (Operand.tmp 4) 2), type := 0, pos := "page.go:46", after := #[{ on := 20, ground := Ground.guard }], guard := (some (20, false)) } : Oper)) (v := _) rfl (by kernel_rfl) (by kernel_rfl) (by kernel_rfl) (fun _ _ _ h => h) (Or.inr ⟨by rfl, rfl⟩) hHeld ?_
      try simp only [Act.put, List.setIfInBounds_toArray, List.set_cons_zero, List.set_cons_succ]
      refine wpAnyH_take (i := 22) (oi := ({ dst := (some 35), op := (Op.load 3 (Operand.tmp 34)), type := 3, pos := "page.go:46", after := #[{ on := 21, ground := Ground.data }, { on := 20, ground := Ground.guard }], guard := (some (20, false)) } : Oper)) (v := _) rfl (by kernel_rfl) (by kernel_rfl) (by kernel_rfl) (fun _ _ _ h => h) (Or.inr ⟨by rfl, rfl⟩) hHeld ?_
      try simp only [Act.put, List.setIfInBounds_toArray, List.set_cons_zero, List.set_cons_succ]
      refine wpAnyH_take (i := 23) (oi := ({ dst := (some 36), op := (Op.binOp BinOp.lss 3 (Operand.tmp 35) (Operand.const (Value.int IntKind.i64 1)) 3), type := 4, pos := "page.go:46", after := #[{ on := 22, ground := Ground.data }, { on := 20, ground := Ground.guard }], guard := (some (20, false)) } : Oper)) (v := _) rfl (by kernel_rfl) (by kernel_rfl) (by kernel_rfl) (fun _ _ _ h => h) (Or.inr ⟨by rfl, rfl⟩) hHeld ?_
      try simp only [Act.put, List.setIfInBounds_toArray, List.set_cons_zero, List.set_cons_succ]
      refine wpAnyH_take (i := 24) (oi := ({ dst := (some 37), op := (Op.pick (Operand.tmp 33) (Operand.const (Value.bool true)) (Operand.tmp 36)), type := 4, pos := "page.go:46", after := #[{ on := 20, ground := Ground.data }, { on := 23, ground := Ground.data }], guard := none } : Oper)) (v := ?_) rfl (by kernel_rfl) (by kernel_rfl) (by kernel_rfl) (fun _ _ _ h => h) (Or.inl ⟨by rfl, ?_⟩) hHeld ?_
      rotate_left
      · intro w_ hSw; (try dsimp only at hSw); go_simp; try (with_reducible rfl)
      try simp only [Act.put, List.setIfInBounds_toArray, List.set_cons_zero, List.set_cons_succ]
      refine wpAnyH_take (i := 25) (oi := ({ dst := (some 38), op := (Op.move (Operand.tmp 37)), type := 4, pos := "page.go:46", after := #[{ on := 24, ground := Ground.data }, { on := 20, ground := Ground.chain }], guard := none } : Oper)) (v := ?_) rfl (by kernel_rfl) (by kernel_rfl) (by kernel_rfl) (fun _ _ _ h => h) (Or.inl ⟨by rfl, ?_⟩) hHeld ?_
      rotate_left
      · intro w_ hSw; (try dsimp only at hSw); go_simp; try (with_reducible rfl)
      try simp only [Act.put, List.setIfInBounds_toArray, List.set_cons_zero, List.set_cons_succ]
      refine wpAnyH_take (i := 26) (oi := ({ dst := (some 39), op := (Op.fieldAddr 66 (Operand.tmp 4) 2), type := 0, pos := "page.go:46", after := #[{ on := 25, ground := Ground.guard }], guard := (some (25, false)) } : Oper)) (v := _) rfl (by kernel_rfl) (by kernel_rfl) (by kernel_rfl) (fun _ _ _ h => h) (Or.inr ⟨by rfl, rfl⟩) hHeld ?_
      try simp only [Act.put, List.setIfInBounds_toArray, List.set_cons_zero, List.set_cons_succ]
      refine wpAnyH_take (i := 27) (oi := ({ dst := (some 40), op := (Op.load 3 (Operand.tmp 39)), type := 3, pos := "page.go:46", after := #[{ on := 26, ground := Ground.data }, { on := 25, ground := Ground.guard }], guard := (some (25, false)) } : Oper)) (v := _) rfl (by kernel_rfl) (by kernel_rfl) (by kernel_rfl) (fun _ _ _ h => h) (Or.inr ⟨by rfl, rfl⟩) hHeld ?_
      try simp only [Act.put, List.setIfInBounds_toArray, List.set_cons_zero, List.set_cons_succ]
      refine wpAnyH_take (i := 28) (oi := ({ dst := (some 41), op := (Op.binOp BinOp.gtr 3 (Operand.tmp 40) (Operand.const (Value.int IntKind.i64 65536)) 3), type := 4, pos := "page.go:46", after := #[{ on := 27, ground := Ground.data }, { on := 25, ground := Ground.guard }], guard := (some (25, false)) } : Oper)) (v := _) rfl (by kernel_rfl) (by kernel_rfl) (by kernel_rfl) (fun _ _ _ h => h) (Or.inr ⟨by rfl, rfl⟩) hHeld ?_
      try simp only [Act.put, List.setIfInBounds_toArray, List.set_cons_zero, List.set_cons_succ]
      refine wpAnyH_take (i := 29) (oi := ({ dst := (some 42), op := (Op.pick (Operand.tmp 38) (Operand.const (Value.bool true)) (Operand.tmp 41)), type := 4, pos := "page.go:46", after := #[{ on := 25, ground := Ground.data }, { on := 28, ground := Ground.data }], guard := none } : Oper)) (v := ?_) rfl (by kernel_rfl) (by kernel_rfl) (by kernel_rfl) (fun _ _ _ h => h) (Or.inl ⟨by rfl, ?_⟩) hHeld ?_
      rotate_left
      · intro w_ hSw; (try dsimp only at hSw); go_simp; try (with_reducible rfl)
      try simp only [Act.put, List.setIfInBounds_toArray, List.set_cons_zero, List.set_cons_succ]
      refine wpAnyH_done (by kernel_rfl) ?_ _
      go_wp2_with fail
      go_ret
      exact ⟨by rw [HBAD.out (by rw [HPD.out] <;> (simp [*] <;> omega))]; rfl, HP.out.below⟩
  · have d1 : decide (x < (l.length : Int)) = false := decide_eq_false (by omega)
    have HE := Aside0.mk (show linksTo l l.length = true from by rw [show l.length = j by have := HK.out; omega, HG.out])
    have hcg : wr.cell? ⟨g1, 1, none⟩ = some (.slice A l.length c) := blk_cell (HP.out.blk 0 rfl) 1
    clear hx c1
    by_cases c3 : 0 < l.length
    · have d3 : decide ((0 : Int) < (l.length : Int)) = true := decide_eq_true (by omega)
      have d4 : decide (0 < l.length) = true := decide_eq_true c3
      go_wp2_with (first | ((with_reducible refine gate_dst (N := 49) rfl ?_); refine ev_load rfl 113 (.tmp 1) rfl g1 rfl (HP.out.blk 0 rfl) Try.underlying113 rfl (by kernel_rfl) ?_))
      refine (c_lcount Ak nk ck A c l wr (Kd.C_below HR.out HP.out.below) (fun y hy => by
        obtain ⟨j_, hj_⟩ := List.getElem?_of_mem hy
        exact linksTo_n HE.out (List.getElem?_eq_some_iff.1 hj_).1 hj_) HL.out).mono ?_; rintro e wf ⟨rfl, hb⟩
      have HPn := Aside0.mk (HP.out.call hb)
      clear HP hb hcg
      have HP := HPn
      clear HPn
      go_wp2_with fail
      go_ret
      exact ⟨by unfold linksS; rw [HE.out, d4]; rfl, HP.out.below⟩
    · have d3 : decide ((0 : Int) < (l.length : Int)) = false := decide_eq_false (by omega)
      have d4 : decide (0 < l.length) = false := decide_eq_false c3
      go_wp2_with fail
      go_ret
      exact ⟨by unfold linksS; rw [HE.out, d4]; rfl, HP.out.below⟩
end Go.Proofs.Ytlgnfbgjdkbfoaa.Pg
