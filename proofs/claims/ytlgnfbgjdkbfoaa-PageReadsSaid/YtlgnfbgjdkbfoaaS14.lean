import Derived.Test.YtlgnfbgjdkbfoaaS13
namespace Go.Proofs.Ytlgnfbgjdkbfoaa.Pg
open Go.RowKit Go.Proofs.Ytlgnfbgjdkbfoaa.XH Go.Proofs.Ytlgnfbgjdkbfoaa.Wd Go.Proofs.YtlgnfbgjdkbfoaaW.PrintWords Go.Proofs.YtlgnfbgjdkbfoaaW.PrintLast Go.Proofs.YtlgnfbgjdkbfoaaW.PrintMore Go.Proofs.YtlgnfbgjdkbfoaaXe Go.Proofs.YtlgnfbgjdkbfoaaXs
set_option linter.unusedVariables false
set_option linter.unusedSimpArgs false
attribute [local go_sem ↓] Go.wp_at_zero Go.wp_at_succ
set_option maxHeartbeats 8000000 in
set_option maxRecDepth 100000 in
theorem c_rlinks (A : Option Addr) (c : Nat) (l : List S66) (w : World) (h1 : k66.C w A l.length l) (hl : l.length ≤ 1000000) (hsz : ∀ y ∈ l, y.f0.size ≤ 1000000000000) :
    Calls Try.prog 76 #[.slice A l.length c] w fun e w' => e = .returned (.bool (linksS l)) ∧ Below w.heap.size w w' := by
  have HR := Aside0.mk h1
  have HL := Aside0.mk hl
  have HSZ := Aside0.mk hsz
  have HP := Aside0.mk (Hp.start w)
  have hll : (l.length : Int) ≤ 1000000 := by omega
  clear h1 hl hsz
  go_enter Try.func76, Try.ntmps76
  go_wp2_with fail
  go_loopg [3, 4] l.length (fun kq v3 vq w' => ∃ (j : Nat) (x s : Int), v3 = .int .i64 s ∧ vq = .int .i64 x ∧ Aside0 (x = (j : Int)) ∧ Aside0 (kq + j = l.length) ∧ Aside0 (linksTo l j = true) ∧ Aside0 (s = sumN (l.take j)) ∧ Aside0 (Hp w w' []))
  case atStart => exact ⟨0, 0, 0, rfl, rfl, ⟨rfl⟩, ⟨rfl⟩, ⟨rfl⟩, ⟨rfl⟩, HP⟩
  clear HP
  obtain ⟨j, x, s, rfl, rfl, HX, HK, HG, HS, HP⟩ := hrel
  have hx := HX.out
  have HSB := Aside0.mk (show 0 ≤ s ∧ s ≤ 65536 * (j : Int) from by
    have h := sum_room (l.take j) fun z hz => by
      obtain ⟨i_, hi_⟩ := List.getElem?_of_mem hz
      rw [List.getElem?_take] at hi_
      split at hi_
      · exact linksTo_n HG.out (by assumption) hi_
      · cases hi_
    rw [← HS.out, List.length_take] at h
    omega)
  by_cases c1 : j < l.length
  · have d1 : decide (x < (l.length : Int)) = true := decide_eq_true (by omega)
    have ex : IntKind.i64.wrap (x + 1) = x + 1 := IntWalk.i64_in _ (by omega)
    have p0 : 0 ≤ x := by omega
    have q0 : x < (l.length : Int) := by omega
    obtain ⟨y, hy⟩ : ∃ p, l[j]? = some p := ⟨_, List.getElem?_eq_getElem c1⟩
    obtain ⟨Ab, Ao, rfl⟩ := C_addrK (by decide) HR.out (by omega)
    have HYV := Aside0.mk (fun w' (hb : Below w.heap.size w w') => (show w'.cell? ⟨Ab, Ao + x.toNat * 34, none⟩ = some (.string y.f0) ∧ w'.cell? ⟨Ab, Ao + x.toNat * 34 + 33, none⟩ = some (.int .i64 y.f2) from by
      obtain ⟨cs, hcs, hra⟩ := range_K HR.out hy
      have hcs2 := k66_open hcs
      subst hcs2
      have h0 := hra 0 _ rfl
      have h1 := hra 33 _ rfl
      rw [show x.toNat = j by omega]
      exact ⟨(hb.cell (World.block_lt_of_cell? w _ h0)).trans h0, (hb.cell (World.block_lt_of_cell? w _ h1)).trans h1⟩))
    have HYD := Aside0.mk (show l.getD j z66 = y from by rw [List.getD_eq_getElem?_getD, hy]; rfl)
    have HBAD := Aside0.mk (fun hb : linkAt l j y = false => (show linksS l = false from by unfold linksS; rw [linksTo_bad l c1 (by rw [HYD.out]; exact hb)]; rfl))
    have HY := Aside0.mk hy
    have HKS := Aside0.mk (HSZ.out y (List.mem_of_getElem? hy))
    clear hy hx
    go_upto_region 5 with fail
    have hx := HX.out
    by_cases ck : keyOk y.f0 = true
    case neg =>
      have hkey : keyOk y.f0 = false := by simpa using ck
      have HPD := Aside0.mk (show linkAt l j y = false from by unfold linkAt; rw [hkey]; rfl)
      clear ck hx c1
      refine held_named (S := (fun w' => w'.cell? ⟨Ab, Ao + x.toNat * 34, none⟩ = some (.string y.f0) ∧ w'.cell? ⟨Ab, Ao + x.toNat * 34 + 33, none⟩ = some (.int .i64 y.f2))) (by kernel_rfl) (fun wd6 hwd6 => ?_)
      have HPn := Aside0.mk (HP.out.drewN 1)
      rw [← World.drew_is_drewN, hwd6] at HPn
      clear HP hwd6
      have HP := HPn
      clear HPn
      refine ⟨by (try dsimp only); exact HYV.out _ HP.out.below, fun hHeld => ?_⟩
      refine wpAnyH_take (i := 0) (oi := ({ dst := (some 11), op := (Op.move (Operand.tmp 0)), type := 25, pos := "ref.go:40", after := #[], guard := none } : Oper)) (v := ?_) rfl (by kernel_rfl) (by kernel_rfl) (by kernel_rfl) (fun _ _ _ h => h) (Or.inl ⟨by rfl, ?_⟩) hHeld ?_
      rotate_left
      · intro w_ hSw; (try dsimp only at hSw); obtain ⟨s1_, s2_⟩ := hSw; (try obtain ⟨s1_, s3_⟩ := s1_); go_simp; try (with_reducible rfl)
      try simp only [Act.put, List.setIfInBounds_toArray, List.set_cons_zero, List.set_cons_succ]
      refine wpAnyH_take (i := 1) (oi := ({ dst := (some 12), op := (Op.move (Operand.tmp 4)), type := 3, pos := "ref.go:40", after := #[], guard := none } : Oper)) (v := ?_) rfl (by kernel_rfl) (by kernel_rfl) (by kernel_rfl) (fun _ _ _ h => h) (Or.inl ⟨by rfl, ?_⟩) hHeld ?_
      rotate_left
      · intro w_ hSw; (try dsimp only at hSw); obtain ⟨s1_, s2_⟩ := hSw; (try obtain ⟨s1_, s3_⟩ := s1_); go_simp; try (with_reducible rfl)
      try simp only [Act.put, List.setIfInBounds_toArray, List.set_cons_zero, List.set_cons_succ]
      refine wpAnyH_take (i := 2) (oi := ({ dst := (some 13), op := (Op.indexAddr 25 (Operand.tmp 11) (Operand.tmp 12)), type := 0, pos := "ref.go:40", after := #[{ on := 0, ground := Ground.data }, { on := 1, ground := Ground.data }], guard := none } : Oper)) (v := ?_) rfl (by kernel_rfl) (by kernel_rfl) (by kernel_rfl) (fun _ _ _ h => h) (Or.inl ⟨by rfl, ?_⟩) hHeld ?_
      rotate_left
      · intro w_ hSw; (try dsimp only at hSw); obtain ⟨s1_, s2_⟩ := hSw; (try obtain ⟨s1_, s3_⟩ := s1_); go_simp; try (with_reducible rfl)
      try simp only [Act.put, List.setIfInBounds_toArray, List.set_cons_zero, List.set_cons_succ]
      refine wpAnyH_take (i := 3) (oi := ({ dst := (some 14), op := (Op.fieldAddr 66 (Operand.tmp 13) 0), type := 0, pos := "ref.go:40", after := #[{ on := 2, ground := Ground.data }], guard := none } : Oper)) (v := ?_) rfl (by kernel_rfl) (by kernel_rfl) (by kernel_rfl) (fun _ _ _ h => h) (Or.inl ⟨by rfl, ?_⟩) hHeld ?_
      rotate_left
      · intro w_ hSw; (try dsimp only at hSw); obtain ⟨s1_, s2_⟩ := hSw; (try obtain ⟨s1_, s3_⟩ := s1_); go_simp; try (with_reducible rfl)
      try simp only [Act.put, List.setIfInBounds_toArray, List.set_cons_zero, List.set_cons_succ]
      refine wpAnyH_take (i := 4) (oi := ({ dst := (some 15), op := (Op.load 9 (Operand.tmp 14)), type := 9, pos := "ref.go:40", after := #[{ on := 3, ground := Ground.data }], guard := none } : Oper)) (v := ?_) rfl (by kernel_rfl) (by kernel_rfl) (by kernel_rfl) (fun _ _ _ h => h) (Or.inl ⟨by rfl, ?_⟩) hHeld ?_
      rotate_left
      · intro w_ hSw; (try dsimp only at hSw); obtain ⟨s1_, s2_⟩ := hSw; (try obtain ⟨s1_, s3_⟩ := s1_); go_simp; try (with_reducible rfl)
      try simp only [Act.put, List.setIfInBounds_toArray, List.set_cons_zero, List.set_cons_succ]
      refine wpAnyH_ready (rs := [5]) (by kernel_rfl) (by simp) ?_
      refine AllReadyH.cons (o := ({ dst := (some 16), op := (Op.call { callee := (Callee.value (Operand.func 87)), args := #[(Operand.tmp 15)], argTypes := #[9] }), type := 4, pos := "ref.go:40", after := #[{ on := 4, ground := Ground.data }], guard := none } : Oper)) rfl (fun K hK => ?_) AllReadyH.nil
      go_simp
      go_at_call 87; refine (c_rkey _ HKS.out _).mono ?_; rintro e w_ ⟨rfl, rfl⟩; (try rw [hkey])
      go_wp2_with fail
      clear hHeld
      refine hK.out _ _ ?_ (fun hHeld => ?_)
      · (try dsimp only); exact HYV.out _ HP.out.below
      clear hK K
      try simp only [Act.put, List.setIfInBounds_toArray, List.set_cons_zero, List.set_cons_succ]
      refine wpAnyH_take (i := 6) (oi := ({ dst := (some 17), op := (Op.unOp UnOp.not 4 (Operand.tmp 16)), type := 4, pos := "ref.go:40", after := #[{ on := 5, ground := Ground.data }], guard := none } : Oper)) (v := ?_) rfl (by kernel_rfl) (by kernel_rfl) (by kernel_rfl) (fun _ _ _ h => h) (Or.inl ⟨by rfl, ?_⟩) hHeld ?_
      rotate_left
      · intro w_ hSw; (try dsimp only at hSw); obtain ⟨s1_, s2_⟩ := hSw; (try obtain ⟨s1_, s3_⟩ := s1_); go_simp; try (with_reducible rfl)
      try simp only [Act.put, List.setIfInBounds_toArray, List.set_cons_zero, List.set_cons_succ]
      refine wpAnyH_take (i := 7) (oi := ({ dst := (some 18), op := (Op.move (Operand.tmp 17)), type := 4, pos := "ref.go:40", after := #[{ on := 6, ground := Ground.data }, { on := 5, ground := Ground.chain }], guard := none } : Oper)) (v := ?_) rfl (by kernel_rfl) (by kernel_rfl) (by kernel_rfl) (fun _ _ _ h => h) (Or.inl ⟨by rfl, ?_⟩) hHeld ?_
      rotate_left
      · intro w_ hSw; (try dsimp only at hSw); obtain ⟨s1_, s2_⟩ := hSw; (try obtain ⟨s1_, s3_⟩ := s1_); go_simp; try (with_reducible rfl)
      try simp only [Act.put, List.setIfInBounds_toArray, List.set_cons_zero, List.set_cons_succ]
      refine wpAnyH_take (i := 8) (oi := ({ dst := (some 19), op := (Op.move (Operand.tmp 0)), type := 25, pos := "ref.go:40", after := #[{ on := 7, ground := Ground.guard }], guard := (some (7, false)) } : Oper)) (v := _) rfl (by kernel_rfl) (by kernel_rfl) (by kernel_rfl) (fun _ _ _ h => h) (Or.inr ⟨by rfl, rfl⟩) hHeld ?_
      try simp only [Act.put, List.setIfInBounds_toArray, List.set_cons_zero, List.set_cons_succ]
      refine wpAnyH_take (i := 9) (oi := ({ dst := (some 20), op := (Op.move (Operand.tmp 4)), type := 3, pos := "ref.go:40", after := #[{ on := 7, ground := Ground.guard }], guard := (some (7, false)) } : Oper)) (v := _) rfl (by kernel_rfl) (by kernel_rfl) (by kernel_rfl) (fun _ _ _ h => h) (Or.inr ⟨by rfl, rfl⟩) hHeld ?_
      try simp only [Act.put, List.setIfInBounds_toArray, List.set_cons_zero, List.set_cons_succ]
      refine wpAnyH_take (i := 10) (oi := ({ dst := (some 21), op := (Op.indexAddr 25 (Operand.tmp 19) (Operand.tmp 20)), type := 0, pos := "ref.go:40", after := #[{ on := 8, ground := Ground.data }, { on := 9, ground := Ground.data }, { on := 7, ground := Ground.guard }], guard := (some (7, false)) } : Oper)) (v := _) rfl (by kernel_rfl) (by kernel_rfl) (by kernel_rfl) (fun _ _ _ h => h) (Or.inr ⟨by rfl, rfl⟩) hHeld ?_
      try simp only [Act.put, List.setIfInBounds_toArray, List.set_cons_zero, List.set_cons_succ]
      refine wpAnyH_take (i := 11) (oi := ({ dst := (some 22), op := (Op.fieldAddr 66 (Operand.tmp 21) 2), type := 0, pos := "ref.go:40", after := #[{ on := 10, ground := Ground.data }, { on := 7, ground := Ground.guard }], guard := (some (7, false)) } : Oper)) (v := _) rfl (by kernel_rfl) (by kernel_rfl) (by kernel_rfl) (fun _ _ _ h => h) (Or.inr ⟨by rfl, rfl⟩) hHeld ?_
      try simp only [Act.put, List.setIfInBounds_toArray, List.set_cons_zero, List.set_cons_succ]
      refine wpAnyH_take (i := 12) (oi := ({ dst := (some 23), op := (Op.load 3 (Operand.tmp 22)), type := 3, pos := "ref.go:40", after := #[{ on := 11, ground := Ground.data }, { on := 7, ground := Ground.guard }], guard := (some (7, false)) } : Oper)) (v := _) rfl (by kernel_rfl) (by kernel_rfl) (by kernel_rfl) (fun _ _ _ h => h) (Or.inr ⟨by rfl, rfl⟩) hHeld ?_
      try simp only [Act.put, List.setIfInBounds_toArray, List.set_cons_zero, List.set_cons_succ]
      refine wpAnyH_take (i := 13) (oi := ({ dst := (some 24), op := (Op.binOp BinOp.lss 3 (Operand.tmp 23) (Operand.const (Value.int IntKind.i64 1)) 3), type := 4, pos := "ref.go:40", after := #[{ on := 12, ground := Ground.data }, { on := 7, ground := Ground.guard }], guard := (some (7, false)) } : Oper)) (v := _) rfl (by kernel_rfl) (by kernel_rfl) (by kernel_rfl) (fun _ _ _ h => h) (Or.inr ⟨by rfl, rfl⟩) hHeld ?_
      try simp only [Act.put, List.setIfInBounds_toArray, List.set_cons_zero, List.set_cons_succ]
      refine wpAnyH_take (i := 14) (oi := ({ dst := (some 25), op := (Op.pick (Operand.tmp 18) (Operand.const (Value.bool true)) (Operand.tmp 24)), type := 4, pos := "ref.go:40", after := #[{ on := 7, ground := Ground.data }, { on := 13, ground := Ground.data }], guard := none } : Oper)) (v := ?_) rfl (by kernel_rfl) (by kernel_rfl) (by kernel_rfl) (fun _ _ _ h => h) (Or.inl ⟨by rfl, ?_⟩) hHeld ?_
      rotate_left
      · intro w_ hSw; (try dsimp only at hSw); obtain ⟨s1_, s2_⟩ := hSw; (try obtain ⟨s1_, s3_⟩ := s1_); go_simp; try (with_reducible rfl)
      try simp only [Act.put, List.setIfInBounds_toArray, List.set_cons_zero, List.set_cons_succ]
      refine wpAnyH_take (i := 15) (oi := ({ dst := (some 26), op := (Op.move (Operand.tmp 25)), type := 4, pos := "ref.go:40", after := #[{ on := 14, ground := Ground.data }, { on := 7, ground := Ground.chain }], guard := none } : Oper)) (v := ?_) rfl (by kernel_rfl) (by kernel_rfl) (by kernel_rfl) (fun _ _ _ h => h) (Or.inl ⟨by rfl, ?_⟩) hHeld ?_
      rotate_left
      · intro w_ hSw; (try dsimp only at hSw); obtain ⟨s1_, s2_⟩ := hSw; (try obtain ⟨s1_, s3_⟩ := s1_); go_simp; try (with_reducible rfl)
      try simp only [Act.put, List.setIfInBounds_toArray, List.set_cons_zero, List.set_cons_succ]
      refine wpAnyH_take (i := 16) (oi := ({ dst := (some 27), op := (Op.move (Operand.tmp 0)), type := 25, pos := "ref.go:40", after := #[{ on := 15, ground := Ground.guard }], guard := (some (15, false)) } : Oper)) (v := _) rfl (by kernel_rfl) (by kernel_rfl) (by kernel_rfl) (fun _ _ _ h => h) (Or.inr ⟨by rfl, rfl⟩) hHeld ?_
      try simp only [Act.put, List.setIfInBounds_toArray, List.set_cons_zero, List.set_cons_succ]
      refine wpAnyH_take (i := 17) (oi := ({ dst := (some 28), op := (Op.move (Operand.tmp 4)), type := 3, pos := "ref.go:40", after := #[{ on := 15, ground := Ground.guard }], guard := (some (15, false)) } : Oper)) (v := _) rfl (by kernel_rfl) (by kernel_rfl) (by kernel_rfl) (fun _ _ _ h => h) (Or.inr ⟨by rfl, rfl⟩) hHeld ?_
      try simp only [Act.put, List.setIfInBounds_toArray, List.set_cons_zero, List.set_cons_succ]
      refine wpAnyH_take (i := 18) (oi := ({ dst := (some 29), op := (Op.indexAddr 25 (Operand.tmp 27) (Operand.tmp 28)), type := 0, pos := "ref.go:40", after := #[{ on := 16, ground := Ground.data }, { on := 17, ground := Ground.data }, { on := 15, ground := Ground.guard }], guard := (some (15, false)) } : Oper)) (v := _) rfl (by kernel_rfl) (by kernel_rfl) (by kernel_rfl) (fun _ _ _ h => h) (Or.inr ⟨by rfl, rfl⟩) hHeld ?_
      try simp only [Act.put, List.setIfInBounds_toArray, List.set_cons_zero, List.set_cons_succ]
      refine wpAnyH_take (i := 19) (oi := ({ dst := (some 30), op := (Op.fieldAddr 66 (Operand.tmp 29) 2), type := 0, pos := "ref.go:40", after := #[{ on := 18, ground := Ground.data }, { on := 15, ground := Ground.guard }], guard := (some (15, false)) } : Oper)) (v := _) rfl (by kernel_rfl) (by kernel_rfl) (by kernel_rfl) (fun _ _ _ h => h) (Or.inr ⟨by rfl, rfl⟩) hHeld ?_
      try simp only [Act.put, List.setIfInBounds_toArray, List.set_cons_zero, List.set_cons_succ]
      refine wpAnyH_take (i := 20) (oi := ({ dst := (some 31), op := (Op.load 3 (Operand.tmp 30)), type := 3, pos := "ref.go:40", after := #[{ on := 19, ground := Ground.data }, { on := 15, ground := Ground.guard }], guard := (some (15, false)) } : Oper)) (v := _) rfl (by kernel_rfl) (by kernel_rfl) (by kernel_rfl) (fun _ _ _ h => h) (Or.inr ⟨by rfl, rfl⟩) hHeld ?_
      try simp only [Act.put, List.setIfInBounds_toArray, List.set_cons_zero, List.set_cons_succ]
      refine wpAnyH_take (i := 21) (oi := ({ dst := (some 32), op := (Op.binOp BinOp.gtr 3 (Operand.tmp 31) (Operand.const (Value.int IntKind.i64 65536)) 3), type := 4, pos := "ref.go:40", after := #[{ on := 20, ground := Ground.data }, { on := 15, ground := Ground.guard }], guard := (some (15, false)) } : Oper)) (v := _) rfl (by kernel_rfl) (by kernel_rfl) (by kernel_rfl) (fun _ _ _ h => h) (Or.inr ⟨by rfl, rfl⟩) hHeld ?_
      try simp only [Act.put, List.setIfInBounds_toArray, List.set_cons_zero, List.set_cons_succ]
      refine wpAnyH_take (i := 22) (oi := ({ dst := (some 33), op := (Op.pick (Operand.tmp 26) (Operand.const (Value.bool true)) (Operand.tmp 32)), type := 4, pos := "ref.go:40", after := #[{ on := 15, ground := Ground.data }, { on := 21, ground := Ground.data }], guard := none } : Oper)) (v := ?_) rfl (by kernel_rfl) (by kernel_rfl) (by kernel_rfl) (fun _ _ _ h => h) (Or.inl ⟨by rfl, ?_⟩) hHeld ?_
      rotate_left
      · intro w_ hSw; (try dsimp only at hSw); obtain ⟨s1_, s2_⟩ := hSw; (try obtain ⟨s1_, s3_⟩ := s1_); go_simp; try (with_reducible rfl)
      try simp only [Act.put, List.setIfInBounds_toArray, List.set_cons_zero, List.set_cons_succ]
      refine wpAnyH_take (i := 23) (oi := ({ dst := (some 34), op := (Op.move (Operand.tmp 33)), type := 4, pos := "ref.go:40", after := #[{ on := 22, ground := Ground.data }, { on := 15, ground := Ground.chain }], guard := none } : Oper)) (v := ?_) rfl (by kernel_rfl) (by kernel_rfl) (by kernel_rfl) (fun _ _ _ h => h) (Or.inl ⟨by rfl, ?_⟩) hHeld ?_
      rotate_left
      · intro w_ hSw; (try dsimp only at hSw); obtain ⟨s1_, s2_⟩ := hSw; (try obtain ⟨s1_, s3_⟩ := s1_); go_simp; try (with_reducible rfl)
      try simp only [Act.put, List.setIfInBounds_toArray, List.set_cons_zero, List.set_cons_succ]
      refine wpAnyH_take (i := 24) (oi := ({ dst := (some 35), op := (Op.move (Operand.tmp 4)), type := 3, pos := "ref.go:40", after := #[{ on := 23, ground := Ground.guard }], guard := (some (23, false)) } : Oper)) (v := _) rfl (by kernel_rfl) (by kernel_rfl) (by kernel_rfl) (fun _ _ _ h => h) (Or.inr ⟨by rfl, rfl⟩) hHeld ?_
      try simp only [Act.put, List.setIfInBounds_toArray, List.set_cons_zero, List.set_cons_succ]
      refine wpAnyH_take (i := 25) (oi := ({ dst := (some 36), op := (Op.binOp BinOp.gtr 3 (Operand.tmp 35) (Operand.const (Value.int IntKind.i64 0)) 3), type := 4, pos := "ref.go:40", after := #[{ on := 24, ground := Ground.data }, { on := 23, ground := Ground.guard }], guard := (some (23, false)) } : Oper)) (v := _) rfl (by kernel_rfl) (by kernel_rfl) (by kernel_rfl) (fun _ _ _ h => h) (Or.inr ⟨by rfl, rfl⟩) hHeld ?_
      try simp only [Act.put, List.setIfInBounds_toArray, List.set_cons_zero, List.set_cons_succ]
      refine wpAnyH_take (i := 26) (oi := ({ dst := (some 37), op := (Op.move (Operand.tmp 36)), type := 4, pos := "ref.go:40", after := #[{ on := 25, ground := Ground.data }, { on := 23, ground := Ground.chain }, { on := 23, ground := Ground.guard }], guard := (some (23, false)) } : Oper)) (v := _) rfl (by kernel_rfl) (by kernel_rfl) (by kernel_rfl) (fun _ _ _ h => h) (Or.inr ⟨by rfl, rfl⟩) hHeld ?_
      try simp only [Act.put, List.setIfInBounds_toArray, List.set_cons_zero, List.set_cons_succ]
      refine wpAnyH_take (i := 27) (oi := ({ dst := (some 38), op := (Op.move (Operand.tmp 0)), type := 25, pos := "ref.go:40", after := #[{ on := 26, ground := Ground.guard }], guard := (some (26, true)) } : Oper)) (v := _) rfl (by kernel_rfl) (by kernel_rfl) (by kernel_rfl) (fun _ _ _ h => h) (Or.inr ⟨by rfl, rfl⟩) hHeld ?_
      try simp only [Act.put, List.setIfInBounds_toArray, List.set_cons_zero, List.set_cons_succ]
      refine wpAnyH_take (i := 28) (oi := ({ dst := (some 39), op := (Op.move (Operand.tmp 4)), type := 3, pos := "ref.go:40", after := #[{ on := 26, ground := Ground.guard }], guard := (some (26, true)) } : Oper)) (v := _) rfl (by kernel_rfl) (by kernel_rfl) (by kernel_rfl) (fun _ _ _ h => h) (Or.inr ⟨by rfl, rfl⟩) hHeld ?_
      try simp only [Act.put, List.setIfInBounds_toArray, List.set_cons_zero, List.set_cons_succ]
      refine wpAnyH_take (i := 29) (oi := ({ dst := (some 40), op := (Op.binOp BinOp.sub 3 (Operand.tmp 39) (Operand.const (Value.int IntKind.i64 1)) 3), type := 3, pos := "ref.go:40", after := #[{ on := 28, ground := Ground.data }, { on := 26, ground := Ground.guard }], guard := (some (26, true)) } : Oper)) (v := _) rfl (by kernel_rfl) (by kernel_rfl) (by kernel_rfl) (fun _ _ _ h => h) (Or.inr ⟨by rfl, rfl⟩) hHeld ?_
      try simp only [Act.put, List.setIfInBounds_toArray, List.set_cons_zero, List.set_cons_succ]
      refine wpAnyH_take (i := 30) (oi := ({ dst := (some 41), op := (Op.indexAddr 25 (Operand.tmp 38) (Operand.tmp 40)), type := 0, pos := "ref.go:40", after := #[{ on := 27, ground := Ground.data }, { on := 29, ground := Ground.data }, { on := 26, ground := Ground.guard }], guard := (some (26, true)) } : Oper)) (v := _) rfl (by kernel_rfl) (by kernel_rfl) (by kernel_rfl) (fun _ _ _ h => h) (Or.inr ⟨by rfl, rfl⟩) hHeld ?_
      try simp only [Act.put, List.setIfInBounds_toArray, List.set_cons_zero, List.set_cons_succ]
      refine wpAnyH_take (i := 31) (oi := ({ dst := (some 42), op := (Op.fieldAddr 66 (Operand.tmp 41) 0), type := 0, pos := "ref.go:40", after := #[{ on := 30, ground := Ground.data }, { on := 26, ground := Ground.guard }], guard := (some (26, true)) } : Oper)) (v := _) rfl (by kernel_rfl) (by kernel_rfl) (by kernel_rfl) (fun _ _ _ h => h) (Or.inr ⟨by rfl, rfl⟩) hHeld ?_
      try simp only [Act.put, List.setIfInBounds_toArray, List.set_cons_zero, List.set_cons_succ]
      refine wpAnyH_take (i := 32) (oi := ({ dst := (some 43), op := (Op.load 9 (Operand.tmp 42)), type := 9, pos := "ref.go:40", after := #[{ on := 31, ground := Ground.data }, { on := 26, ground := Ground.guard }], guard := (some (26, true)) } : Oper)) (v := _) rfl (by kernel_rfl) (by kernel_rfl) (by kernel_rfl) (fun _ _ _ h => h) (Or.inr ⟨by rfl, rfl⟩) hHeld ?_
      try simp only [Act.put, List.setIfInBounds_toArray, List.set_cons_zero, List.set_cons_succ]
      refine wpAnyH_take (i := 33) (oi := ({ dst := (some 44), op := (Op.move (Operand.tmp 0)), type := 25, pos := "ref.go:40", after := #[{ on := 26, ground := Ground.guard }], guard := (some (26, true)) } : Oper)) (v := _) rfl (by kernel_rfl) (by kernel_rfl) (by kernel_rfl) (fun _ _ _ h => h) (Or.inr ⟨by rfl, rfl⟩) hHeld ?_
      try simp only [Act.put, List.setIfInBounds_toArray, List.set_cons_zero, List.set_cons_succ]
      refine wpAnyH_take (i := 34) (oi := ({ dst := (some 45), op := (Op.move (Operand.tmp 4)), type := 3, pos := "ref.go:40", after := #[{ on := 26, ground := Ground.guard }], guard := (some (26, true)) } : Oper)) (v := _) rfl (by kernel_rfl) (by kernel_rfl) (by kernel_rfl) (fun _ _ _ h => h) (Or.inr ⟨by rfl, rfl⟩) hHeld ?_
      try simp only [Act.put, List.setIfInBounds_toArray, List.set_cons_zero, List.set_cons_succ]
      refine wpAnyH_take (i := 35) (oi := ({ dst := (some 46), op := (Op.indexAddr 25 (Operand.tmp 44) (Operand.tmp 45)), type := 0, pos := "ref.go:40", after := #[{ on := 33, ground := Ground.data }, { on := 34, ground := Ground.data }, { on := 26, ground := Ground.guard }], guard := (some (26, true)) } : Oper)) (v := _) rfl (by kernel_rfl) (by kernel_rfl) (by kernel_rfl) (fun _ _ _ h => h) (Or.inr ⟨by rfl, rfl⟩) hHeld ?_
      try simp only [Act.put, List.setIfInBounds_toArray, List.set_cons_zero, List.set_cons_succ]
      refine wpAnyH_take (i := 36) (oi := ({ dst := (some 47), op := (Op.fieldAddr 66 (Operand.tmp 46) 0), type := 0, pos := "ref.go:40", after := #[{ on := 35, ground := Ground.data }, { on := 26, ground := Ground.guard }], guard := (some (26, true)) } : Oper)) (v := _) rfl (by kernel_rfl) (by kernel_rfl) (by kernel_rfl) (fun _ _ _ h => h) (Or.inr ⟨by rfl, rfl⟩) hHeld ?_
      try simp only [Act.put, List.setIfInBounds_toArray, List.set_cons_zero, List.set_cons_succ]
      refine wpAnyH_take (i := 37) (oi := ({ dst := (some 48), op := (Op.load 9 (Operand.tmp 47)), type := 9, pos := "ref.go:40", after := #[{ on := 36, ground := Ground.data }, { on := 26, ground := Ground.guard }], guard := (some (26, true)) } : Oper)) (v := _) rfl (by kernel_rfl) (by kernel_rfl) (by kernel_rfl) (fun _ _ _ h => h) (Or.inr ⟨by rfl, rfl⟩) hHeld ?_
      try simp only [Act.put, List.setIfInBounds_toArray, List.set_cons_zero, List.set_cons_succ]
      refine wpAnyH_take (i := 38) (oi := ({ dst := (some 49), op := (Op.binOp BinOp.geq 9 (Operand.tmp 43) (Operand.tmp 48) 9), type := 4, pos := "ref.go:40", after := #[{ on := 32, ground := Ground.data }, { on := 37, ground := Ground.data }, { on := 26, ground := Ground.guard }], guard := (some (26, true)) } : Oper)) (v := _) rfl (by kernel_rfl) (by kernel_rfl) (by kernel_rfl) (fun _ _ _ h => h) (Or.inr ⟨by rfl, rfl⟩) hHeld ?_
      try simp only [Act.put, List.setIfInBounds_toArray, List.set_cons_zero, List.set_cons_succ]
      refine wpAnyH_take (i := 39) (oi := ({ dst := (some 50), op := (Op.pick (Operand.tmp 37) (Operand.tmp 49) (Operand.const (Value.bool false))), type := 4, pos := "ref.go:40", after := #[{ on := 26, ground := Ground.data }, { on := 38, ground := Ground.data }, { on := 23, ground := Ground.guard }], guard := (some (23, false)) } : Oper)) (v := _) rfl (by kernel_rfl) (by kernel_rfl) (by kernel_rfl) (fun _ _ _ h => h) (Or.inr ⟨by rfl, rfl⟩) hHeld ?_
      try simp only [Act.put, List.setIfInBounds_toArray, List.set_cons_zero, List.set_cons_succ]
      refine wpAnyH_take (i := 40) (oi := ({ dst := (some 51), op := (Op.pick (Operand.tmp 34) (Operand.const (Value.bool true)) (Operand.tmp 50)), type := 4, pos := "ref.go:40", after := #[{ on := 23, ground := Ground.data }, { on := 39, ground := Ground.data }], guard := none } : Oper)) (v := ?_) rfl (by kernel_rfl) (by kernel_rfl) (by kernel_rfl) (fun _ _ _ h => h) (Or.inl ⟨by rfl, ?_⟩) hHeld ?_
      rotate_left
      · intro w_ hSw; (try dsimp only at hSw); obtain ⟨s1_, s2_⟩ := hSw; (try obtain ⟨s1_, s3_⟩ := s1_); go_simp; try (with_reducible rfl)
      try simp only [Act.put, List.setIfInBounds_toArray, List.set_cons_zero, List.set_cons_succ]
      refine wpAnyH_done (by kernel_rfl) ?_ _
      go_wp2_with fail
      go_ret
      exact ⟨by rw [HBAD.out HPD.out]; rfl, HP.out.below⟩
    have hkey : keyOk y.f0 = true := ck
    clear ck
    by_cases cn : y.f2 < 1
    · have n1 : decide (y.f2 < 1) = true := decide_eq_true cn
      have HPD := Aside0.mk (show linkAt l j y = false from by unfold linkAt; rw [decide_eq_false (show ¬ (1 ≤ y.f2) by omega)]; simp)
      clear cn hx c1
      refine held_named (S := (fun w' => w'.cell? ⟨Ab, Ao + x.toNat * 34, none⟩ = some (.string y.f0) ∧ w'.cell? ⟨Ab, Ao + x.toNat * 34 + 33, none⟩ = some (.int .i64 y.f2))) (by kernel_rfl) (fun wd6 hwd6 => ?_)
      have HPn := Aside0.mk (HP.out.drewN 1)
      rw [← World.drew_is_drewN, hwd6] at HPn
      clear HP hwd6
      have HP := HPn
      clear HPn
      refine ⟨by (try dsimp only); exact HYV.out _ HP.out.below, fun hHeld => ?_⟩
      refine wpAnyH_take (i := 0) (oi := ({ dst := (some 11), op := (Op.move (Operand.tmp 0)), type := 25, pos := "ref.go:40", after := #[], guard := none } : Oper)) (v := ?_) rfl (by kernel_rfl) (by kernel_rfl) (by kernel_rfl) (fun _ _ _ h => h) (Or.inl ⟨by rfl, ?_⟩) hHeld ?_
      rotate_left
      · intro w_ hSw; (try dsimp only at hSw); obtain ⟨s1_, s2_⟩ := hSw; (try obtain ⟨s1_, s3_⟩ := s1_); go_simp; try (with_reducible rfl)
      try simp only [Act.put, List.setIfInBounds_toArray, List.set_cons_zero, List.set_cons_succ]
      refine wpAnyH_take (i := 1) (oi := ({ dst := (some 12), op := (Op.move (Operand.tmp 4)), type := 3, pos := "ref.go:40", after := #[], guard := none } : Oper)) (v := ?_) rfl (by kernel_rfl) (by kernel_rfl) (by kernel_rfl) (fun _ _ _ h => h) (Or.inl ⟨by rfl, ?_⟩) hHeld ?_
      rotate_left
      · intro w_ hSw; (try dsimp only at hSw); obtain ⟨s1_, s2_⟩ := hSw; (try obtain ⟨s1_, s3_⟩ := s1_); go_simp; try (with_reducible rfl)
      try simp only [Act.put, List.setIfInBounds_toArray, List.set_cons_zero, List.set_cons_succ]
      refine wpAnyH_take (i := 2) (oi := ({ dst := (some 13), op := (Op.indexAddr 25 (Operand.tmp 11) (Operand.tmp 12)), type := 0, pos := "ref.go:40", after := #[{ on := 0, ground := Ground.data }, { on := 1, ground := Ground.data }], guard := none } : Oper)) (v := ?_) rfl (by kernel_rfl) (by kernel_rfl) (by kernel_rfl) (fun _ _ _ h => h) (Or.inl ⟨by rfl, ?_⟩) hHeld ?_
      rotate_left
      · intro w_ hSw; (try dsimp only at hSw); obtain ⟨s1_, s2_⟩ := hSw; (try obtain ⟨s1_, s3_⟩ := s1_); go_simp; try (with_reducible rfl)
      try simp only [Act.put, List.setIfInBounds_toArray, List.set_cons_zero, List.set_cons_succ]
      refine wpAnyH_take (i := 3) (oi := ({ dst := (some 14), op := (Op.fieldAddr 66 (Operand.tmp 13) 0), type := 0, pos := "ref.go:40", after := #[{ on := 2, ground := Ground.data }], guard := none } : Oper)) (v := ?_) rfl (by kernel_rfl) (by kernel_rfl) (by kernel_rfl) (fun _ _ _ h => h) (Or.inl ⟨by rfl, ?_⟩) hHeld ?_
      rotate_left
      · intro w_ hSw; (try dsimp only at hSw); obtain ⟨s1_, s2_⟩ := hSw; (try obtain ⟨s1_, s3_⟩ := s1_); go_simp; try (with_reducible rfl)
      try simp only [Act.put, List.setIfInBounds_toArray, List.set_cons_zero, List.set_cons_succ]
      refine wpAnyH_take (i := 4) (oi := ({ dst := (some 15), op := (Op.load 9 (Operand.tmp 14)), type := 9, pos := "ref.go:40", after := #[{ on := 3, ground := Ground.data }], guard := none } : Oper)) (v := ?_) rfl (by kernel_rfl) (by kernel_rfl) (by kernel_rfl) (fun _ _ _ h => h) (Or.inl ⟨by rfl, ?_⟩) hHeld ?_
      rotate_left
      · intro w_ hSw; (try dsimp only at hSw); obtain ⟨s1_, s2_⟩ := hSw; (try obtain ⟨s1_, s3_⟩ := s1_); go_simp; try (with_reducible rfl)
      try simp only [Act.put, List.setIfInBounds_toArray, List.set_cons_zero, List.set_cons_succ]
      refine wpAnyH_ready (rs := [5]) (by kernel_rfl) (by simp) ?_
      refine AllReadyH.cons (o := ({ dst := (some 16), op := (Op.call { callee := (Callee.value (Operand.func 87)), args := #[(Operand.tmp 15)], argTypes := #[9] }), type := 4, pos := "ref.go:40", after := #[{ on := 4, ground := Ground.data }], guard := none } : Oper)) rfl (fun K hK => ?_) AllReadyH.nil
      go_simp
      go_at_call 87; refine (c_rkey _ HKS.out _).mono ?_; rintro e w_ ⟨rfl, rfl⟩; (try rw [hkey])
      go_wp2_with fail
      clear hHeld
      refine hK.out _ _ ?_ (fun hHeld => ?_)
      · (try dsimp only); exact HYV.out _ HP.out.below
      clear hK K
      try simp only [Act.put, List.setIfInBounds_toArray, List.set_cons_zero, List.set_cons_succ]
      refine wpAnyH_take (i := 6) (oi := ({ dst := (some 17), op := (Op.unOp UnOp.not 4 (Operand.tmp 16)), type := 4, pos := "ref.go:40", after := #[{ on := 5, ground := Ground.data }], guard := none } : Oper)) (v := ?_) rfl (by kernel_rfl) (by kernel_rfl) (by kernel_rfl) (fun _ _ _ h => h) (Or.inl ⟨by rfl, ?_⟩) hHeld ?_
      rotate_left
      · intro w_ hSw; (try dsimp only at hSw); obtain ⟨s1_, s2_⟩ := hSw; (try obtain ⟨s1_, s3_⟩ := s1_); go_simp; try (with_reducible rfl)
      try simp only [Act.put, List.setIfInBounds_toArray, List.set_cons_zero, List.set_cons_succ]
      refine wpAnyH_take (i := 7) (oi := ({ dst := (some 18), op := (Op.move (Operand.tmp 17)), type := 4, pos := "ref.go:40", after := #[{ on := 6, ground := Ground.data }, { on := 5, ground := Ground.chain }], guard := none } : Oper)) (v := ?_) rfl (by kernel_rfl) (by kernel_rfl) (by kernel_rfl) (fun _ _ _ h => h) (Or.inl ⟨by rfl, ?_⟩) hHeld ?_
      rotate_left
      · intro w_ hSw; (try dsimp only at hSw); obtain ⟨s1_, s2_⟩ := hSw; (try obtain ⟨s1_, s3_⟩ := s1_); go_simp; try (with_reducible rfl)
      try simp only [Act.put, List.setIfInBounds_toArray, List.set_cons_zero, List.set_cons_succ]
      refine wpAnyH_take (i := 8) (oi := ({ dst := (some 19), op := (Op.move (Operand.tmp 0)), type := 25, pos := "ref.go:40", after := #[{ on := 7, ground := Ground.guard }], guard := (some (7, false)) } : Oper)) (v := ?_) rfl (by kernel_rfl) (by kernel_rfl) (by kernel_rfl) (fun _ _ _ h => h) (Or.inl ⟨by rfl, ?_⟩) hHeld ?_
      rotate_left
      · intro w_ hSw; (try dsimp only at hSw); obtain ⟨s1_, s2_⟩ := hSw; (try obtain ⟨s1_, s3_⟩ := s1_); go_simp; try (with_reducible rfl)
      try simp only [Act.put, List.setIfInBounds_toArray, List.set_cons_zero, List.set_cons_succ]
      refine wpAnyH_take (i := 9) (oi := ({ dst := (some 20), op := (Op.move (Operand.tmp 4)), type := 3, pos := "ref.go:40", after := #[{ on := 7, ground := Ground.guard }], guard := (some (7, false)) } : Oper)) (v := ?_) rfl (by kernel_rfl) (by kernel_rfl) (by kernel_rfl) (fun _ _ _ h => h) (Or.inl ⟨by rfl, ?_⟩) hHeld ?_
      rotate_left
      · intro w_ hSw; (try dsimp only at hSw); obtain ⟨s1_, s2_⟩ := hSw; (try obtain ⟨s1_, s3_⟩ := s1_); go_simp; try (with_reducible rfl)
      try simp only [Act.put, List.setIfInBounds_toArray, List.set_cons_zero, List.set_cons_succ]
      refine wpAnyH_take (i := 10) (oi := ({ dst := (some 21), op := (Op.indexAddr 25 (Operand.tmp 19) (Operand.tmp 20)), type := 0, pos := "ref.go:40", after := #[{ on := 8, ground := Ground.data }, { on := 9, ground := Ground.data }, { on := 7, ground := Ground.guard }], guard := (some (7, false)) } : Oper)) (v := ?_) rfl (by kernel_rfl) (by kernel_rfl) (by kernel_rfl) (fun _ _ _ h => h) (Or.inl ⟨by rfl, ?_⟩) hHeld ?_
      rotate_left
      · intro w_ hSw; (try dsimp only at hSw); obtain ⟨s1_, s2_⟩ := hSw; (try obtain ⟨s1_, s3_⟩ := s1_); go_simp; try (with_reducible rfl)
      try simp only [Act.put, List.setIfInBounds_toArray, List.set_cons_zero, List.set_cons_succ]
      refine wpAnyH_take (i := 11) (oi := ({ dst := (some 22), op := (Op.fieldAddr 66 (Operand.tmp 21) 2), type := 0, pos := "ref.go:40", after := #[{ on := 10, ground := Ground.data }, { on := 7, ground := Ground.guard }], guard := (some (7, false)) } : Oper)) (v := ?_) rfl (by kernel_rfl) (by kernel_rfl) (by kernel_rfl) (fun _ _ _ h => h) (Or.inl ⟨by rfl, ?_⟩) hHeld ?_
      rotate_left
      · intro w_ hSw; (try dsimp only at hSw); obtain ⟨s1_, s2_⟩ := hSw; (try obtain ⟨s1_, s3_⟩ := s1_); go_simp; try (with_reducible rfl)
      try simp only [Act.put, List.setIfInBounds_toArray, List.set_cons_zero, List.set_cons_succ]
      refine wpAnyH_take (i := 12) (oi := ({ dst := (some 23), op := (Op.load 3 (Operand.tmp 22)), type := 3, pos := "ref.go:40", after := #[{ on := 11, ground := Ground.data }, { on := 7, ground := Ground.guard }], guard := (some (7, false)) } : Oper)) (v := ?_) rfl (by kernel_rfl) (by kernel_rfl) (by kernel_rfl) (fun _ _ _ h => h) (Or.inl ⟨by rfl, ?_⟩) hHeld ?_
      rotate_left
      · intro w_ hSw; (try dsimp only at hSw); obtain ⟨s1_, s2_⟩ := hSw; (try obtain ⟨s1_, s3_⟩ := s1_); go_simp; try (with_reducible rfl)
      try simp only [Act.put, List.setIfInBounds_toArray, List.set_cons_zero, List.set_cons_succ]
      refine wpAnyH_take (i := 13) (oi := ({ dst := (some 24), op := (Op.binOp BinOp.lss 3 (Operand.tmp 23) (Operand.const (Value.int IntKind.i64 1)) 3), type := 4, pos := "ref.go:40", after := #[{ on := 12, ground := Ground.data }, { on := 7, ground := Ground.guard }], guard := (some (7, false)) } : Oper)) (v := ?_) rfl (by kernel_rfl) (by kernel_rfl) (by kernel_rfl) (fun _ _ _ h => h) (Or.inl ⟨by rfl, ?_⟩) hHeld ?_
      rotate_left
      · intro w_ hSw; (try dsimp only at hSw); obtain ⟨s1_, s2_⟩ := hSw; (try obtain ⟨s1_, s3_⟩ := s1_); go_simp; try (with_reducible rfl)
      try simp only [Act.put, List.setIfInBounds_toArray, List.set_cons_zero, List.set_cons_succ]
      refine wpAnyH_take (i := 14) (oi := ({ dst := (some 25), op := (Op.pick (Operand.tmp 18) (Operand.const (Value.bool true)) (Operand.tmp 24)), type := 4, pos := "ref.go:40", after := #[{ on := 7, ground := Ground.data }, { on := 13, ground := Ground.data }], guard := none } : Oper)) (v := ?_) rfl (by kernel_rfl) (by kernel_rfl) (by kernel_rfl) (fun _ _ _ h => h) (Or.inl ⟨by rfl, ?_⟩) hHeld ?_
      rotate_left
      · intro w_ hSw; (try dsimp only at hSw); obtain ⟨s1_, s2_⟩ := hSw; (try obtain ⟨s1_, s3_⟩ := s1_); go_simp; try (with_reducible rfl)
      try simp only [Act.put, List.setIfInBounds_toArray, List.set_cons_zero, List.set_cons_succ]
      refine wpAnyH_take (i := 15) (oi := ({ dst := (some 26), op := (Op.move (Operand.tmp 25)), type := 4, pos := "ref.go:40", after := #[{ on := 14, ground := Ground.data }, { on := 7, ground := Ground.chain }], guard := none } : Oper)) (v := ?_) rfl (by kernel_rfl) (by kernel_rfl) (by kernel_rfl) (fun _ _ _ h => h) (Or.inl ⟨by rfl, ?_⟩) hHeld ?_
      rotate_left
      · intro w_ hSw; (try dsimp only at hSw); obtain ⟨s1_, s2_⟩ := hSw; (try obtain ⟨s1_, s3_⟩ := s1_); go_simp; try (with_reducible rfl)
      try simp only [Act.put, List.setIfInBounds_toArray, List.set_cons_zero, List.set_cons_succ]
      refine wpAnyH_take (i := 16) (oi := ({ dst := (some 27), op := (Op.move (Operand.tmp 0)), type := 25, pos := "ref.go:40", after := #[{ on := 15, ground := Ground.guard }], guard := (some (15, false)) } : Oper)) (v := _) rfl (by kernel_rfl) (by kernel_rfl) (by kernel_rfl) (fun _ _ _ h => h) (Or.inr ⟨by rfl, rfl⟩) hHeld ?_
      try simp only [Act.put, List.setIfInBounds_toArray, List.set_cons_zero, List.set_cons_succ]
      refine wpAnyH_take (i := 17) (oi := ({ dst := (some 28), op := (Op.move (Operand.tmp 4)), type := 3, pos := "ref.go:40", after := #[{ on := 15, ground := Ground.guard }], guard := (some (15, false)) } : Oper)) (v := _) rfl (by kernel_rfl) (by kernel_rfl) (by kernel_rfl) (fun _ _ _ h => h) (Or.inr ⟨by rfl, rfl⟩) hHeld ?_
      try simp only [Act.put, List.setIfInBounds_toArray, List.set_cons_zero, List.set_cons_succ]
      refine wpAnyH_take (i := 18) (oi := ({ dst := (some 29), op := (Op.indexAddr 25 (Operand.tmp 27) (Operand.tmp 28)), type := 0, pos := "ref.go:40", after := #[{ on := 16, ground := Ground.data }, { on := 17, ground := Ground.data }, { on := 15, ground := Ground.guard }], guard := (some (15, false)) } : Oper)) (v := _) rfl (by kernel_rfl) (by kernel_rfl) (by kernel_rfl) (fun _ _ _ h => h) (Or.inr ⟨by rfl, rfl⟩) hHeld ?_
      try simp only [Act.put, List.setIfInBounds_toArray, List.set_cons_zero, List.set_cons_succ]
      refine wpAnyH_take (i := 19) (oi := ({ dst := (some 30), op := (Op.fieldAddr 66 (Operand.tmp 29) 2), type := 0, pos := "ref.go:40", after := #[{ on := 18, ground := Ground.data }, { on := 15, ground := Ground.guard }], guard := (some (15, false)) } : Oper)) (v := _) rfl (by kernel_rfl) (by kernel_rfl) (by kernel_rfl) (fun _ _ _ h => h) (Or.inr ⟨by rfl, rfl⟩) hHeld ?_
      try simp only [Act.put, List.setIfInBounds_toArray, List.set_cons_zero, List.set_cons_succ]
      refine wpAnyH_take (i := 20) (oi := ({ dst := (some 31), op := (Op.load 3 (Operand.tmp 30)), type := 3, pos := "ref.go:40", after := #[{ on := 19, ground := Ground.data }, { on := 15, ground := Ground.guard }], guard := (some (15, false)) } : Oper)) (v := _) rfl (by kernel_rfl) (by kernel_rfl) (by kernel_rfl) (fun _ _ _ h => h) (Or.inr ⟨by rfl, rfl⟩) hHeld ?_
      try simp only [Act.put, List.setIfInBounds_toArray, List.set_cons_zero, List.set_cons_succ]
      refine wpAnyH_take (i := 21) (oi := ({ dst := (some 32), op := (Op.binOp BinOp.gtr 3 (Operand.tmp 31) (Operand.const (Value.int IntKind.i64 65536)) 3), type := 4, pos := "ref.go:40", after := #[{ on := 20, ground := Ground.data }, { on := 15, ground := Ground.guard }], guard := (some (15, false)) } : Oper)) (v := _) rfl (by kernel_rfl) (by kernel_rfl) (by kernel_rfl) (fun _ _ _ h => h) (Or.inr ⟨by rfl, rfl⟩) hHeld ?_
      try simp only [Act.put, List.setIfInBounds_toArray, List.set_cons_zero, List.set_cons_succ]
      refine wpAnyH_take (i := 22) (oi := ({ dst := (some 33), op := (Op.pick (Operand.tmp 26) (Operand.const (Value.bool true)) (Operand.tmp 32)), type := 4, pos := "ref.go:40", after := #[{ on := 15, ground := Ground.data }, { on := 21, ground := Ground.data }], guard := none } : Oper)) (v := ?_) rfl (by kernel_rfl) (by kernel_rfl) (by kernel_rfl) (fun _ _ _ h => h) (Or.inl ⟨by rfl, ?_⟩) hHeld ?_
      rotate_left
      · intro w_ hSw; (try dsimp only at hSw); obtain ⟨s1_, s2_⟩ := hSw; (try obtain ⟨s1_, s3_⟩ := s1_); go_simp; try (with_reducible rfl)
      try simp only [Act.put, List.setIfInBounds_toArray, List.set_cons_zero, List.set_cons_succ]
      refine wpAnyH_take (i := 23) (oi := ({ dst := (some 34), op := (Op.move (Operand.tmp 33)), type := 4, pos := "ref.go:40", after := #[{ on := 22, ground := Ground.data }, { on := 15, ground := Ground.chain }], guard := none } : Oper)) (v := ?_) rfl (by kernel_rfl) (by kernel_rfl) (by kernel_rfl) (fun _ _ _ h => h) (Or.inl ⟨by rfl, ?_⟩) hHeld ?_
      rotate_left
      · intro w_ hSw; (try dsimp only at hSw); obtain ⟨s1_, s2_⟩ := hSw; (try obtain ⟨s1_, s3_⟩ := s1_); go_simp; try (with_reducible rfl)
      try simp only [Act.put, List.setIfInBounds_toArray, List.set_cons_zero, List.set_cons_succ]
      refine wpAnyH_take (i := 24) (oi := ({ dst := (some 35), op := (Op.move (Operand.tmp 4)), type := 3, pos := "ref.go:40", after := #[{ on := 23, ground := Ground.guard }], guard := (some (23, false)) } : Oper)) (v := _) rfl (by kernel_rfl) (by kernel_rfl) (by kernel_rfl) (fun _ _ _ h => h) (Or.inr ⟨by rfl, rfl⟩) hHeld ?_
      try simp only [Act.put, List.setIfInBounds_toArray, List.set_cons_zero, List.set_cons_succ]
      refine wpAnyH_take (i := 25) (oi := ({ dst := (some 36), op := (Op.binOp BinOp.gtr 3 (Operand.tmp 35) (Operand.const (Value.int IntKind.i64 0)) 3), type := 4, pos := "ref.go:40", after := #[{ on := 24, ground := Ground.data }, { on := 23, ground := Ground.guard }], guard := (some (23, false)) } : Oper)) (v := _) rfl (by kernel_rfl) (by kernel_rfl) (by kernel_rfl) (fun _ _ _ h => h) (Or.inr ⟨by rfl, rfl⟩) hHeld ?_
      try simp only [Act.put, List.setIfInBounds_toArray, List.set_cons_zero, List.set_cons_succ]
      refine wpAnyH_take (i := 26) (oi := ({ dst := (some 37), op := (Op.move (Operand.tmp 36)), type := 4, pos := "ref.go:40", after := #[{ on := 25, ground := Ground.data }, { on := 23, ground := Ground.chain }, { on := 23, ground := Ground.guard }], guard := (some (23, false)) } : Oper)) (v := _) rfl (by kernel_rfl) (by kernel_rfl) (by kernel_rfl) (fun _ _ _ h => h) (Or.inr ⟨by rfl, rfl⟩) hHeld ?_
      try simp only [Act.put, List.setIfInBounds_toArray, List.set_cons_zero, List.set_cons_succ]
      refine wpAnyH_take (i := 27) (oi := ({ dst := (some 38), op := (Op.move (Operand.tmp 0)), type := 25, pos := "ref.go:40", after := #[{ on := 26, ground := Ground.guard }], guard := (some (26, true)) } : Oper)) (v := _) rfl (by kernel_rfl) (by kernel_rfl) (by kernel_rfl) (fun _ _ _ h => h) (Or.inr ⟨by rfl, rfl⟩) hHeld ?_
      try simp only [Act.put, List.setIfInBounds_toArray, List.set_cons_zero, List.set_cons_succ]
      refine wpAnyH_take (i := 28) (oi := ({ dst := (some 39), op := (Op.move (Operand.tmp 4)), type := 3, pos := "ref.go:40", after := #[{ on := 26, ground := Ground.guard }], guard := (some (26, true)) } : Oper)) (v := _) rfl (by kernel_rfl) (by kernel_rfl) (by kernel_rfl) (fun _ _ _ h => h) (Or.inr ⟨by rfl, rfl⟩) hHeld ?_
      try simp only [Act.put, List.setIfInBounds_toArray, List.set_cons_zero, List.set_cons_succ]
      refine wpAnyH_take (i := 29) (oi := ({ dst := (some 40), op := (Op.binOp BinOp.sub 3 (Operand.tmp 39) (Operand.const (Value.int IntKind.i64 1)) 3), type := 3, pos := "ref.go:40", after := #[{ on := 28, ground := Ground.data }, { on := 26, ground := Ground.guard }], guard := (some (26, true)) } : Oper)) (v := _) rfl (by kernel_rfl) (by kernel_rfl) (by kernel_rfl) (fun _ _ _ h => h) (Or.inr ⟨by rfl, rfl⟩) hHeld ?_
      try simp only [Act.put, List.setIfInBounds_toArray, List.set_cons_zero, List.set_cons_succ]
      refine wpAnyH_take (i := 30) (oi := ({ dst := (some 41), op := (Op.indexAddr 25 (Operand.tmp 38) (Operand.tmp 40)), type := 0, pos := "ref.go:40", after := #[{ on := 27, ground := Ground.data }, { on := 29, ground := Ground.data }, { on := 26, ground := Ground.guard }], guard := (some (26, true)) } : Oper)) (v := _) rfl (by kernel_rfl) (by kernel_rfl) (by kernel_rfl) (fun _ _ _ h => h) (Or.inr ⟨by rfl, rfl⟩) hHeld ?_
      try simp only [Act.put, List.setIfInBounds_toArray, List.set_cons_zero, List.set_cons_succ]
      refine wpAnyH_take (i := 31) (oi := ({ dst := (some 42), op := (Op.fieldAddr 66 (Operand.tmp 41) 0), type := 0, pos := "ref.go:40", after := #[{ on := 30, ground := Ground.data }, { on := 26, ground := Ground.guard }], guard := (some (26, true)) } : Oper)) (v := _) rfl (by kernel_rfl) (by kernel_rfl) (by kernel_rfl) (fun _ _ _ h => h) (Or.inr ⟨by rfl, rfl⟩) hHeld ?_
      try simp only [Act.put, List.setIfInBounds_toArray, List.set_cons_zero, List.set_cons_succ]
      refine wpAnyH_take (i := 32) (oi := ({ dst := (some 43), op := (Op.load 9 (Operand.tmp 42)), type := 9, pos := "ref.go:40", after := #[{ on := 31, ground := Ground.data }, { on := 26, ground := Ground.guard }], guard := (some (26, true)) } : Oper)) (v := _) rfl (by kernel_rfl) (by kernel_rfl) (by kernel_rfl) (fun _ _ _ h => h) (Or.inr ⟨by rfl, rfl⟩) hHeld ?_
      try simp only [Act.put, List.setIfInBounds_toArray, List.set_cons_zero, List.set_cons_succ]
      refine wpAnyH_take (i := 33) (oi := ({ dst := (some 44), op := (Op.move (Operand.tmp 0)), type := 25, pos := "ref.go:40", after := #[{ on := 26, ground := Ground.guard }], guard := (some (26, true)) } : Oper)) (v := _) rfl (by kernel_rfl) (by kernel_rfl) (by kernel_rfl) (fun _ _ _ h => h) (Or.inr ⟨by rfl, rfl⟩) hHeld ?_
      try simp only [Act.put, List.setIfInBounds_toArray, List.set_cons_zero, List.set_cons_succ]
      refine wpAnyH_take (i := 34) (oi := ({ dst := (some 45), op := (Op.move (Operand.tmp 4)), type := 3, pos := "ref.go:40", after := #[{ on := 26, ground := Ground.guard }], guard := (some (26, true)) } : Oper)) (v := _) rfl (by kernel_rfl) (by kernel_rfl) (by kernel_rfl) (fun _ _ _ h => h) (Or.inr ⟨by rfl, rfl⟩) hHeld ?_
      try simp only [Act.put, List.setIfInBounds_toArray, List.set_cons_zero, List.set_cons_succ]
      refine wpAnyH_take (i := 35) (oi := ({ dst := (some 46), op := (Op.indexAddr 25 (Operand.tmp 44) (Operand.tmp 45)), type := 0, pos := "ref.go:40", after := #[{ on := 33, ground := Ground.data }, { on := 34, ground := Ground.data }, { on := 26, ground := Ground.guard }], guard := (some (26, true)) } : Oper)) (v := _) rfl (by kernel_rfl) (by kernel_rfl) (by kernel_rfl) (fun _ _ _ h => h) (Or.inr ⟨by rfl, rfl⟩) hHeld ?_
      try simp only [Act.put, List.setIfInBounds_toArray, List.set_cons_zero, List.set_cons_succ]
      refine wpAnyH_take (i := 36) (oi := ({ dst := (some 47), op := (Op.fieldAddr 66 (Operand.tmp 46) 0), type := 0, pos := "ref.go:40", after := #[{ on := 35, ground := Ground.data }, { on := 26, ground := Ground.guard }], guard := (some (26, true)) } : Oper)) (v := _) rfl (by kernel_rfl) (by kernel_rfl) (by kernel_rfl) (fun _ _ _ h => h) (Or.inr ⟨by rfl, rfl⟩) hHeld ?_
      try simp only [Act.put, List.setIfInBounds_toArray, List.set_cons_zero, List.set_cons_succ]
      refine wpAnyH_take (i := 37) (oi := ({ dst := (some 48), op := (Op.load 9 (Operand.tmp 47)), type := 9, pos := "ref.go:40", after := #[{ on := 36, ground := Ground.data }, { on := 26, ground := Ground.guard }], guard := (some (26, true)) } : Oper)) (v := _) rfl (by kernel_rfl) (by kernel_rfl) (by kernel_rfl) (fun _ _ _ h => h) (Or.inr ⟨by rfl, rfl⟩) hHeld ?_
      try simp only [Act.put, List.setIfInBounds_toArray, List.set_cons_zero, List.set_cons_succ]
      refine wpAnyH_take (i := 38) (oi := ({ dst := (some 49), op := (Op.binOp BinOp.geq 9 (Operand.tmp 43) (Operand.tmp 48) 9), type := 4, pos := "ref.go:40", after := #[{ on := 32, ground := Ground.data }, { on := 37, ground := Ground.data }, { on := 26, ground := Ground.guard }], guard := (some (26, true)) } : Oper)) (v := _) rfl (by kernel_rfl) (by kernel_rfl) (by kernel_rfl) (fun _ _ _ h => h) (Or.inr ⟨by rfl, rfl⟩) hHeld ?_
      try simp only [Act.put, List.setIfInBounds_toArray, List.set_cons_zero, List.set_cons_succ]
      refine wpAnyH_take (i := 39) (oi := ({ dst := (some 50), op := (Op.pick (Operand.tmp 37) (Operand.tmp 49) (Operand.const (Value.bool false))), type := 4, pos := "ref.go:40", after := #[{ on := 26, ground := Ground.data }, { on := 38, ground := Ground.data }, { on := 23, ground := Ground.guard }], guard := (some (23, false)) } : Oper)) (v := _) rfl (by kernel_rfl) (by kernel_rfl) (by kernel_rfl) (fun _ _ _ h => h) (Or.inr ⟨by rfl, rfl⟩) hHeld ?_
      try simp only [Act.put, List.setIfInBounds_toArray, List.set_cons_zero, List.set_cons_succ]
      refine wpAnyH_take (i := 40) (oi := ({ dst := (some 51), op := (Op.pick (Operand.tmp 34) (Operand.const (Value.bool true)) (Operand.tmp 50)), type := 4, pos := "ref.go:40", after := #[{ on := 23, ground := Ground.data }, { on := 39, ground := Ground.data }], guard := none } : Oper)) (v := ?_) rfl (by kernel_rfl) (by kernel_rfl) (by kernel_rfl) (fun _ _ _ h => h) (Or.inl ⟨by rfl, ?_⟩) hHeld ?_
      rotate_left
      · intro w_ hSw; (try dsimp only at hSw); obtain ⟨s1_, s2_⟩ := hSw; (try obtain ⟨s1_, s3_⟩ := s1_); go_simp; try (with_reducible rfl)
      try simp only [Act.put, List.setIfInBounds_toArray, List.set_cons_zero, List.set_cons_succ]
      refine wpAnyH_done (by kernel_rfl) ?_ _
      go_wp2_with fail
      go_ret
      exact ⟨by rw [HBAD.out HPD.out]; rfl, HP.out.below⟩
    have n1 : decide (y.f2 < 1) = false := decide_eq_false cn
    have n3 : 1 ≤ y.f2 := by omega
    clear cn
    by_cases cm : y.f2 > 65536
    · have n2 : decide (65536 < y.f2) = true := decide_eq_true cm
      have HPD := Aside0.mk (show linkAt l j y = false from by unfold linkAt; rw [decide_eq_false (show ¬ (y.f2 ≤ 65536) by omega)]; simp)
      clear cm hx c1
      refine held_named (S := (fun w' => w'.cell? ⟨Ab, Ao + x.toNat * 34, none⟩ = some (.string y.f0) ∧ w'.cell? ⟨Ab, Ao + x.toNat * 34 + 33, none⟩ = some (.int .i64 y.f2))) (by kernel_rfl) (fun wd6 hwd6 => ?_)
      have HPn := Aside0.mk (HP.out.drewN 1)
      rw [← World.drew_is_drewN, hwd6] at HPn
      clear HP hwd6
      have HP := HPn
      clear HPn
      refine ⟨by (try dsimp only); exact HYV.out _ HP.out.below, fun hHeld => ?_⟩
      refine wpAnyH_take (i := 0) (oi := ({ dst := (some 11), op := (Op.move (Operand.tmp 0)), type := 25, pos := "ref.go:40", after := #[], guard := none } : Oper)) (v := ?_) rfl (by kernel_rfl) (by kernel_rfl) (by kernel_rfl) (fun _ _ _ h => h) (Or.inl ⟨by rfl, ?_⟩) hHeld ?_
      rotate_left
      · intro w_ hSw; (try dsimp only at hSw); obtain ⟨s1_, s2_⟩ := hSw; (try obtain ⟨s1_, s3_⟩ := s1_); go_simp; try (with_reducible rfl)
      try simp only [Act.put, List.setIfInBounds_toArray, List.set_cons_zero, List.set_cons_succ]
      refine wpAnyH_take (i := 1) (oi := ({ dst := (some 12), op := (Op.move (Operand.tmp 4)), type := 3, pos := "ref.go:40", after := #[], guard := none } : Oper)) (v := ?_) rfl (by kernel_rfl) (by kernel_rfl) (by kernel_rfl) (fun _ _ _ h => h) (Or.inl ⟨by rfl, ?_⟩) hHeld ?_
      rotate_left
      · intro w_ hSw; (try dsimp only at hSw); obtain ⟨s1_, s2_⟩ := hSw; (try obtain ⟨s1_, s3_⟩ := s1_); go_simp; try (with_reducible rfl)
      try simp only [Act.put, List.setIfInBounds_toArray, List.set_cons_zero, List.set_cons_succ]
      refine wpAnyH_take (i := 2) (oi := ({ dst := (some 13), op := (Op.indexAddr 25 (Operand.tmp 11) (Operand.tmp 12)), type := 0, pos := "ref.go:40", after := #[{ on := 0, ground := Ground.data }, { on := 1, ground := Ground.data }], guard := none } : Oper)) (v := ?_) rfl (by kernel_rfl) (by kernel_rfl) (by kernel_rfl) (fun _ _ _ h => h) (Or.inl ⟨by rfl, ?_⟩) hHeld ?_
      rotate_left
      · intro w_ hSw; (try dsimp only at hSw); obtain ⟨s1_, s2_⟩ := hSw; (try obtain ⟨s1_, s3_⟩ := s1_); go_simp; try (with_reducible rfl)
      try simp only [Act.put, List.setIfInBounds_toArray, List.set_cons_zero, List.set_cons_succ]
      refine wpAnyH_take (i := 3) (oi := ({ dst := (some 14), op := (Op.fieldAddr 66 (Operand.tmp 13) 0), type := 0, pos := "ref.go:40", after := #[{ on := 2, ground := Ground.data }], guard := none } : Oper)) (v := ?_) rfl (by kernel_rfl) (by kernel_rfl) (by kernel_rfl) (fun _ _ _ h => h) (Or.inl ⟨by rfl, ?_⟩) hHeld ?_
      rotate_left
      · intro w_ hSw; (try dsimp only at hSw); obtain ⟨s1_, s2_⟩ := hSw; (try obtain ⟨s1_, s3_⟩ := s1_); go_simp; try (with_reducible rfl)
      try simp only [Act.put, List.setIfInBounds_toArray, List.set_cons_zero, List.set_cons_succ]
      refine wpAnyH_take (i := 4) (oi := ({ dst := (some 15), op := (Op.load 9 (Operand.tmp 14)), type := 9, pos := "ref.go:40", after := #[{ on := 3, ground := Ground.data }], guard := none } : Oper)) (v := ?_) rfl (by kernel_rfl) (by kernel_rfl) (by kernel_rfl) (fun _ _ _ h => h) (Or.inl ⟨by rfl, ?_⟩) hHeld ?_
      rotate_left
      · intro w_ hSw; (try dsimp only at hSw); obtain ⟨s1_, s2_⟩ := hSw; (try obtain ⟨s1_, s3_⟩ := s1_); go_simp; try (with_reducible rfl)
      try simp only [Act.put, List.setIfInBounds_toArray, List.set_cons_zero, List.set_cons_succ]
      refine wpAnyH_ready (rs := [5]) (by kernel_rfl) (by simp) ?_
      refine AllReadyH.cons (o := ({ dst := (some 16), op := (Op.call { callee := (Callee.value (Operand.func 87)), args := #[(Operand.tmp 15)], argTypes := #[9] }), type := 4, pos := "ref.go:40", after := #[{ on := 4, ground := Ground.data }], guard := none } : Oper)) rfl (fun K hK => ?_) AllReadyH.nil
      go_simp
      go_at_call 87; refine (c_rkey _ HKS.out _).mono ?_; rintro e w_ ⟨rfl, rfl⟩; (try rw [hkey])
      go_wp2_with fail
      clear hHeld
      refine hK.out _ _ ?_ (fun hHeld => ?_)
      · (try dsimp only); exact HYV.out _ HP.out.below
      clear hK K
      try simp only [Act.put, List.setIfInBounds_toArray, List.set_cons_zero, List.set_cons_succ]
      refine wpAnyH_take (i := 6) (oi := ({ dst := (some 17), op := (Op.unOp UnOp.not 4 (Operand.tmp 16)), type := 4, pos := "ref.go:40", after := #[{ on := 5, ground := Ground.data }], guard := none } : Oper)) (v := ?_) rfl (by kernel_rfl) (by kernel_rfl) (by kernel_rfl) (fun _ _ _ h => h) (Or.inl ⟨by rfl, ?_⟩) hHeld ?_
      rotate_left
      · intro w_ hSw; (try dsimp only at hSw); obtain ⟨s1_, s2_⟩ := hSw; (try obtain ⟨s1_, s3_⟩ := s1_); go_simp; try (with_reducible rfl)
      try simp only [Act.put, List.setIfInBounds_toArray, List.set_cons_zero, List.set_cons_succ]
      refine wpAnyH_take (i := 7) (oi := ({ dst := (some 18), op := (Op.move (Operand.tmp 17)), type := 4, pos := "ref.go:40", after := #[{ on := 6, ground := Ground.data }, { on := 5, ground := Ground.chain }], guard := none } : Oper)) (v := ?_) rfl (by kernel_rfl) (by kernel_rfl) (by kernel_rfl) (fun _ _ _ h => h) (Or.inl ⟨by rfl, ?_⟩) hHeld ?_
      rotate_left
      · intro w_ hSw; (try dsimp only at hSw); obtain ⟨s1_, s2_⟩ := hSw; (try obtain ⟨s1_, s3_⟩ := s1_); go_simp; try (with_reducible rfl)
      try simp only [Act.put, List.setIfInBounds_toArray, List.set_cons_zero, List.set_cons_succ]
      refine wpAnyH_take (i := 8) (oi := ({ dst := (some 19), op := (Op.move (Operand.tmp 0)), type := 25, pos := "ref.go:40", after := #[{ on := 7, ground := Ground.guard }], guard := (some (7, false)) } : Oper)) (v := ?_) rfl (by kernel_rfl) (by kernel_rfl) (by kernel_rfl) (fun _ _ _ h => h) (Or.inl ⟨by rfl, ?_⟩) hHeld ?_
      rotate_left
      · intro w_ hSw; (try dsimp only at hSw); obtain ⟨s1_, s2_⟩ := hSw; (try obtain ⟨s1_, s3_⟩ := s1_); go_simp; try (with_reducible rfl)
      try simp only [Act.put, List.setIfInBounds_toArray, List.set_cons_zero, List.set_cons_succ]
      refine wpAnyH_take (i := 9) (oi := ({ dst := (some 20), op := (Op.move (Operand.tmp 4)), type := 3, pos := "ref.go:40", after := #[{ on := 7, ground := Ground.guard }], guard := (some (7, false)) } : Oper)) (v := ?_) rfl (by kernel_rfl) (by kernel_rfl) (by kernel_rfl) (fun _ _ _ h => h) (Or.inl ⟨by rfl, ?_⟩) hHeld ?_
      rotate_left
      · intro w_ hSw; (try dsimp only at hSw); obtain ⟨s1_, s2_⟩ := hSw; (try obtain ⟨s1_, s3_⟩ := s1_); go_simp; try (with_reducible rfl)
      try simp only [Act.put, List.setIfInBounds_toArray, List.set_cons_zero, List.set_cons_succ]
      refine wpAnyH_take (i := 10) (oi := ({ dst := (some 21), op := (Op.indexAddr 25 (Operand.tmp 19) (Operand.tmp 20)), type := 0, pos := "ref.go:40", after := #[{ on := 8, ground := Ground.data }, { on := 9, ground := Ground.data }, { on := 7, ground := Ground.guard }], guard := (some (7, false)) } : Oper)) (v := ?_) rfl (by kernel_rfl) (by kernel_rfl) (by kernel_rfl) (fun _ _ _ h => h) (Or.inl ⟨by rfl, ?_⟩) hHeld ?_
      rotate_left
      · intro w_ hSw; (try dsimp only at hSw); obtain ⟨s1_, s2_⟩ := hSw; (try obtain ⟨s1_, s3_⟩ := s1_); go_simp; try (with_reducible rfl)
      try simp only [Act.put, List.setIfInBounds_toArray, List.set_cons_zero, List.set_cons_succ]
      refine wpAnyH_take (i := 11) (oi := ({ dst := (some 22), op := (Op.fieldAddr 66 (Operand.tmp 21) 2), type := 0, pos := "ref.go:40", after := #[{ on := 10, ground := Ground.data }, { on := 7, ground := Ground.guard }], guard := (some (7, false)) } : Oper)) (v := ?_) rfl (by kernel_rfl) (by kernel_rfl) (by kernel_rfl) (fun _ _ _ h => h) (Or.inl ⟨by rfl, ?_⟩) hHeld ?_
      rotate_left
      · intro w_ hSw; (try dsimp only at hSw); obtain ⟨s1_, s2_⟩ := hSw; (try obtain ⟨s1_, s3_⟩ := s1_); go_simp; try (with_reducible rfl)
      try simp only [Act.put, List.setIfInBounds_toArray, List.set_cons_zero, List.set_cons_succ]
      refine wpAnyH_take (i := 12) (oi := ({ dst := (some 23), op := (Op.load 3 (Operand.tmp 22)), type := 3, pos := "ref.go:40", after := #[{ on := 11, ground := Ground.data }, { on := 7, ground := Ground.guard }], guard := (some (7, false)) } : Oper)) (v := ?_) rfl (by kernel_rfl) (by kernel_rfl) (by kernel_rfl) (fun _ _ _ h => h) (Or.inl ⟨by rfl, ?_⟩) hHeld ?_
      rotate_left
      · intro w_ hSw; (try dsimp only at hSw); obtain ⟨s1_, s2_⟩ := hSw; (try obtain ⟨s1_, s3_⟩ := s1_); go_simp; try (with_reducible rfl)
      try simp only [Act.put, List.setIfInBounds_toArray, List.set_cons_zero, List.set_cons_succ]
      refine wpAnyH_take (i := 13) (oi := ({ dst := (some 24), op := (Op.binOp BinOp.lss 3 (Operand.tmp 23) (Operand.const (Value.int IntKind.i64 1)) 3), type := 4, pos := "ref.go:40", after := #[{ on := 12, ground := Ground.data }, { on := 7, ground := Ground.guard }], guard := (some (7, false)) } : Oper)) (v := ?_) rfl (by kernel_rfl) (by kernel_rfl) (by kernel_rfl) (fun _ _ _ h => h) (Or.inl ⟨by rfl, ?_⟩) hHeld ?_
      rotate_left
      · intro w_ hSw; (try dsimp only at hSw); obtain ⟨s1_, s2_⟩ := hSw; (try obtain ⟨s1_, s3_⟩ := s1_); go_simp; try (with_reducible rfl)
      try simp only [Act.put, List.setIfInBounds_toArray, List.set_cons_zero, List.set_cons_succ]
      refine wpAnyH_take (i := 14) (oi := ({ dst := (some 25), op := (Op.pick (Operand.tmp 18) (Operand.const (Value.bool true)) (Operand.tmp 24)), type := 4, pos := "ref.go:40", after := #[{ on := 7, ground := Ground.data }, { on := 13, ground := Ground.data }], guard := none } : Oper)) (v := ?_) rfl (by kernel_rfl) (by kernel_rfl) (by kernel_rfl) (fun _ _ _ h => h) (Or.inl ⟨by rfl, ?_⟩) hHeld ?_
      rotate_left
      · intro w_ hSw; (try dsimp only at hSw); obtain ⟨s1_, s2_⟩ := hSw; (try obtain ⟨s1_, s3_⟩ := s1_); go_simp; try (with_reducible rfl)
      try simp only [Act.put, List.setIfInBounds_toArray, List.set_cons_zero, List.set_cons_succ]
      refine wpAnyH_take (i := 15) (oi := ({ dst := (some 26), op := (Op.move (Operand.tmp 25)), type := 4, pos := "ref.go:40", after := #[{ on := 14, ground := Ground.data }, { on := 7, ground := Ground.chain }], guard := none } : Oper)) (v := ?_) rfl (by kernel_rfl) (by kernel_rfl) (by kernel_rfl) (fun _ _ _ h => h) (Or.inl ⟨by rfl, ?_⟩) hHeld ?_
      rotate_left
      · intro w_ hSw; (try dsimp only at hSw); obtain ⟨s1_, s2_⟩ := hSw; (try obtain ⟨s1_, s3_⟩ := s1_); go_simp; try (with_reducible rfl)
      try simp only [Act.put, List.setIfInBounds_toArray, List.set_cons_zero, List.set_cons_succ]
      refine wpAnyH_take (i := 16) (oi := ({ dst := (some 27), op := (Op.move (Operand.tmp 0)), type := 25, pos := "ref.go:40", after := #[{ on := 15, ground := Ground.guard }], guard := (some (15, false)) } : Oper)) (v := ?_) rfl (by kernel_rfl) (by kernel_rfl) (by kernel_rfl) (fun _ _ _ h => h) (Or.inl ⟨by rfl, ?_⟩) hHeld ?_
      rotate_left
      · intro w_ hSw; (try dsimp only at hSw); obtain ⟨s1_, s2_⟩ := hSw; (try obtain ⟨s1_, s3_⟩ := s1_); go_simp; try (with_reducible rfl)
      try simp only [Act.put, List.setIfInBounds_toArray, List.set_cons_zero, List.set_cons_succ]
      refine wpAnyH_take (i := 17) (oi := ({ dst := (some 28), op := (Op.move (Operand.tmp 4)), type := 3, pos := "ref.go:40", after := #[{ on := 15, ground := Ground.guard }], guard := (some (15, false)) } : Oper)) (v := ?_) rfl (by kernel_rfl) (by kernel_rfl) (by kernel_rfl) (fun _ _ _ h => h) (Or.inl ⟨by rfl, ?_⟩) hHeld ?_
      rotate_left
      · intro w_ hSw; (try dsimp only at hSw); obtain ⟨s1_, s2_⟩ := hSw; (try obtain ⟨s1_, s3_⟩ := s1_); go_simp; try (with_reducible rfl)
      try simp only [Act.put, List.setIfInBounds_toArray, List.set_cons_zero, List.set_cons_succ]
      refine wpAnyH_take (i := 18) (oi := ({ dst := (some 29), op := (Op.indexAddr 25 (Operand.tmp 27) (Operand.tmp 28)), type := 0, pos := "ref.go:40", after := #[{ on := 16, ground := Ground.data }, { on := 17, ground := Ground.data }, { on := 15, ground := Ground.guard }], guard := (some (15, false)) } : Oper)) (v := ?_) rfl (by kernel_rfl) (by kernel_rfl) (by kernel_rfl) (fun _ _ _ h => h) (Or.inl ⟨by rfl, ?_⟩) hHeld ?_
      rotate_left
      · intro w_ hSw; (try dsimp only at hSw); obtain ⟨s1_, s2_⟩ := hSw; (try obtain ⟨s1_, s3_⟩ := s1_); go_simp; try (with_reducible rfl)
      try simp only [Act.put, List.setIfInBounds_toArray, List.set_cons_zero, List.set_cons_succ]
      refine wpAnyH_take (i := 19) (oi := ({ dst := (some 30), op := (Op.fieldAddr 66 (Operand.tmp 29) 2), type := 0, pos := "ref.go:40", after := #[{ on := 18, ground := Ground.data }, { on := 15, ground := Ground.guard }], guard := (some (15, false)) } : Oper)) (v := ?_) rfl (by kernel_rfl) (by kernel_rfl) (by kernel_rfl) (fun _ _ _ h => h) (Or.inl ⟨by rfl, ?_⟩) hHeld ?_
      rotate_left
      · intro w_ hSw; (try dsimp only at hSw); obtain ⟨s1_, s2_⟩ := hSw; (try obtain ⟨s1_, s3_⟩ := s1_); go_simp; try (with_reducible rfl)
      try simp only [Act.put, List.setIfInBounds_toArray, List.set_cons_zero, List.set_cons_succ]
      refine wpAnyH_take (i := 20) (oi := ({ dst := (some 31), op := (Op.load 3 (Operand.tmp 30)), type := 3, pos := "ref.go:40", after := #[{ on := 19, ground := Ground.data }, { on := 15, ground := Ground.guard }], guard := (some (15, false)) } : Oper)) (v := ?_) rfl (by kernel_rfl) (by kernel_rfl) (by kernel_rfl) (fun _ _ _ h => h) (Or.inl ⟨by rfl, ?_⟩) hHeld ?_
      rotate_left
      · intro w_ hSw; (try dsimp only at hSw); obtain ⟨s1_, s2_⟩ := hSw; (try obtain ⟨s1_, s3_⟩ := s1_); go_simp; try (with_reducible rfl)
      try simp only [Act.put, List.setIfInBounds_toArray, List.set_cons_zero, List.set_cons_succ]
      refine wpAnyH_take (i := 21) (oi := ({ dst := (some 32), op := (Op.binOp BinOp.gtr 3 (Operand.tmp 31) (Operand.const (Value.int IntKind.i64 65536)) 3), type := 4, pos := "ref.go:40", after := #[{ on := 20, ground := Ground.data }, { on := 15, ground := Ground.guard }], guard := (some (15, false)) } : Oper)) (v := ?_) rfl (by kernel_rfl) (by kernel_rfl) (by kernel_rfl) (fun _ _ _ h => h) (Or.inl ⟨by rfl, ?_⟩) hHeld ?_
      rotate_left
      · intro w_ hSw; (try dsimp only at hSw); obtain ⟨s1_, s2_⟩ := hSw; (try obtain ⟨s1_, s3_⟩ := s1_); go_simp; try (with_reducible rfl)
      try simp only [Act.put, List.setIfInBounds_toArray, List.set_cons_zero, List.set_cons_succ]
      refine wpAnyH_take (i := 22) (oi := ({ dst := (some 33), op := (Op.pick (Operand.tmp 26) (Operand.const (Value.bool true)) (Operand.tmp 32)), type := 4, pos := "ref.go:40", after := #[{ on := 15, ground := Ground.data }, { on := 21, ground := Ground.data }], guard := none } : Oper)) (v := ?_) rfl (by kernel_rfl) (by kernel_rfl) (by kernel_rfl) (fun _ _ _ h => h) (Or.inl ⟨by rfl, ?_⟩) hHeld ?_
      rotate_left
      · intro w_ hSw; (try dsimp only at hSw); obtain ⟨s1_, s2_⟩ := hSw; (try obtain ⟨s1_, s3_⟩ := s1_); go_simp; try (with_reducible rfl)
      try simp only [Act.put, List.setIfInBounds_toArray, List.set_cons_zero, List.set_cons_succ]
      refine wpAnyH_take (i := 23) (oi := ({ dst := (some 34), op := (Op.move (Operand.tmp 33)), type := 4, pos := "ref.go:40", after := #[{ on := 22, ground := Ground.data }, { on := 15, ground := Ground.chain }], guard := none } : Oper)) (v := ?_) rfl (by kernel_rfl) (by kernel_rfl) (by kernel_rfl) (fun _ _ _ h => h) (Or.inl ⟨by rfl, ?_⟩) hHeld ?_
      rotate_left
      · intro w_ hSw; (try dsimp only at hSw); obtain ⟨s1_, s2_⟩ := hSw; (try obtain ⟨s1_, s3_⟩ := s1_); go_simp; try (with_reducible rfl)
      try simp only [Act.put, List.setIfInBounds_toArray, List.set_cons_zero, List.set_cons_succ]
      refine wpAnyH_take (i := 24) (oi := ({ dst := (some 35), op := (Op.move (Operand.tmp 4)), type := 3, pos := "ref.go:40", after := #[{ on := 23, ground := Ground.guard }], guard := (some (23, false)) } : Oper)) (v := _) rfl (by kernel_rfl) (by kernel_rfl) (by kernel_rfl) (fun _ _ _ h => h) (Or.inr ⟨by rfl, rfl⟩) hHeld ?_
      try simp only [Act.put, List.setIfInBounds_toArray, List.set_cons_zero, List.set_cons_succ]
      refine wpAnyH_take (i := 25) (oi := ({ dst := (some 36), op := (Op.binOp BinOp.gtr 3 (Operand.tmp 35) (Operand.const (Value.int IntKind.i64 0)) 3), type := 4, pos := "ref.go:40", after := #[{ on := 24, ground := Ground.data }, { on := 23, ground := Ground.guard }], guard := (some (23, false)) } : Oper)) (v := _) rfl (by kernel_rfl) (by kernel_rfl) (by kernel_rfl) (fun _ _ _ h => h) (Or.inr ⟨by rfl, rfl⟩) hHeld ?_
      try simp only [Act.put, List.setIfInBounds_toArray, List.set_cons_zero, List.set_cons_succ]
      refine wpAnyH_take (i := 26) (oi := ({ dst := (some 37), op := (Op.move (Operand.tmp 36)), type := 4, pos := "ref.go:40", after := #[{ on := 25, ground := Ground.data }, { on := 23, ground := Ground.chain }, { on := 23, ground := Ground.guard }], guard := (some (23, false)) } : Oper)) (v := _) rfl (by kernel_rfl) (by kernel_rfl) (by kernel_rfl) (fun _ _ _ h => h) (Or.inr ⟨by rfl, rfl⟩) hHeld ?_
      try simp only [Act.put, List.setIfInBounds_toArray, List.set_cons_zero, List.set_cons_succ]
      refine wpAnyH_take (i := 27) (oi := ({ dst := (some 38), op := (Op.move (Operand.tmp 0)), type := 25, pos := "ref.go:40", after := #[{ on := 26, ground := Ground.guard }], guard := (some (26, true)) } : Oper)) (v := _) rfl (by kernel_rfl) (by kernel_rfl) (by kernel_rfl) (fun _ _ _ h => h) (Or.inr ⟨by rfl, rfl⟩) hHeld ?_
      try simp only [Act.put, List.setIfInBounds_toArray, List.set_cons_zero, List.set_cons_succ]
      refine wpAnyH_take (i := 28) (oi := ({ dst := (some 39), op := (Op.move (Operand.tmp 4)), type := 3, pos := "ref.go:40", after := #[{ on := 26, ground := Ground.guard }], guard := (some (26, true)) } : Oper)) (v := _) rfl (by kernel_rfl) (by kernel_rfl) (by kernel_rfl) (fun _ _ _ h => h) (Or.inr ⟨by rfl, rfl⟩) hHeld ?_
      try simp only [Act.put, List.setIfInBounds_toArray, List.set_cons_zero, List.set_cons_succ]
      refine wpAnyH_take (i := 29) (oi := ({ dst := (some 40), op := (Op.binOp BinOp.sub 3 (Operand.tmp 39) (Operand.const (Value.int IntKind.i64 1)) 3), type := 3, pos := "ref.go:40", after := #[{ on := 28, ground := Ground.data }, { on := 26, ground := Ground.guard }], guard := (some (26, true)) } : Oper)) (v := _) rfl (by kernel_rfl) (by kernel_rfl) (by kernel_rfl) (fun _ _ _ h => h) (Or.inr ⟨by rfl, rfl⟩) hHeld ?_
      try simp only [Act.put, List.setIfInBounds_toArray, List.set_cons_zero, List.set_cons_succ]
      refine wpAnyH_take (i := 30) (oi := ({ dst := (some 41), op := (Op.indexAddr 25 (Operand.tmp 38) (Operand.tmp 40)), type := 0, pos := "ref.go:40", after := #[{ on := 27, ground := Ground.data }, { on := 29, ground := Ground.data }, { on := 26, ground := Ground.guard }], guard := (some (26, true)) } : Oper)) (v := _) rfl (by kernel_rfl) (by kernel_rfl) (by kernel_rfl) (fun _ _ _ h => h) (Or.inr ⟨by rfl, rfl⟩) hHeld ?_
      try simp only [Act.put, List.setIfInBounds_toArray, List.set_cons_zero, List.set_cons_succ]
      refine wpAnyH_take (i := 31) (oi := ({ dst := (some 42), op := (Op.fieldAddr 66 (Operand.tmp 41) 0), type := 0, pos := "ref.go:40", after := #[{ on := 30, ground := Ground.data }, { on := 26, ground := Ground.guard }], guard := (some (26, true)) } : Oper)) (v := _) rfl (by kernel_rfl) (by kernel_rfl) (by kernel_rfl) (fun _ _ _ h => h) (Or.inr ⟨by rfl, rfl⟩) hHeld ?_
      try simp only [Act.put, List.setIfInBounds_toArray, List.set_cons_zero, List.set_cons_succ]
      refine wpAnyH_take (i := 32) (oi := ({ dst := (some 43), op := (Op.load 9 (Operand.tmp 42)), type := 9, pos := "ref.go:40", after := #[{ on := 31, ground := Ground.data }, { on := 26, ground := Ground.guard }], guard := (some (26, true)) } : Oper)) (v := _) rfl (by kernel_rfl) (by kernel_rfl) (by kernel_rfl) (fun _ _ _ h => h) (Or.inr ⟨by rfl, rfl⟩) hHeld ?_
      try simp only [Act.put, List.setIfInBounds_toArray, List.set_cons_zero, List.set_cons_succ]
      refine wpAnyH_take (i := 33) (oi := ({ dst := (some 44), op := (Op.move (Operand.tmp 0)), type := 25, pos := "ref.go:40", after := #[{ on := 26, ground := Ground.guard }], guard := (some (26, true)) } : Oper)) (v := _) rfl (by kernel_rfl) (by kernel_rfl) (by kernel_rfl) (fun _ _ _ h => h) (Or.inr ⟨by rfl, rfl⟩) hHeld ?_
      try simp only [Act.put, List.setIfInBounds_toArray, List.set_cons_zero, List.set_cons_succ]
      refine wpAnyH_take (i := 34) (oi := ({ dst := (some 45), op := (Op.move (Operand.tmp 4)), type := 3, pos := "ref.go:40", after := #[{ on := 26, ground := Ground.guard }], guard := (some (26, true)) } : Oper)) (v := _) rfl (by kernel_rfl) (by kernel_rfl) (by kernel_rfl) (fun _ _ _ h => h) (Or.inr ⟨by rfl, rfl⟩) hHeld ?_
      try simp only [Act.put, List.setIfInBounds_toArray, List.set_cons_zero, List.set_cons_succ]
      refine wpAnyH_take (i := 35) (oi := ({ dst := (some 46), op := (Op.indexAddr 25 (Operand.tmp 44) (Operand.tmp 45)), type := 0, pos := "ref.go:40", after := #[{ on := 33, ground := Ground.data }, { on := 34, ground := Ground.data }, { on := 26, ground := Ground.guard }], guard := (some (26, true)) } : Oper)) (v := _) rfl (by kernel_rfl) (by kernel_rfl) (by kernel_rfl) (fun _ _ _ h => h) (Or.inr ⟨by rfl, rfl⟩) hHeld ?_
      try simp only [Act.put, List.setIfInBounds_toArray, List.set_cons_zero, List.set_cons_succ]
      refine wpAnyH_take (i := 36) (oi := ({ dst := (some 47), op := (Op.fieldAddr 66 (Operand.tmp 46) 0), type := 0, pos := "ref.go:40", after := #[{ on := 35, ground := Ground.data }, { on := 26, ground := Ground.guard }], guard := (some (26, true)) } : Oper)) (v := _) rfl (by kernel_rfl) (by kernel_rfl) (by kernel_rfl) (fun _ _ _ h => h) (Or.inr ⟨by rfl, rfl⟩) hHeld ?_
      try simp only [Act.put, List.setIfInBounds_toArray, List.set_cons_zero, List.set_cons_succ]
      refine wpAnyH_take (i := 37) (oi := ({ dst := (some 48), op := (Op.load 9 (Operand.tmp 47)), type := 9, pos := "ref.go:40", after := #[{ on := 36, ground := Ground.data }, { on := 26, ground := Ground.guard }], guard := (some (26, true)) } : Oper)) (v := _) rfl (by kernel_rfl) (by kernel_rfl) (by kernel_rfl) (fun _ _ _ h => h) (Or.inr ⟨by rfl, rfl⟩) hHeld ?_
      try simp only [Act.put, List.setIfInBounds_toArray, List.set_cons_zero, List.set_cons_succ]
      refine wpAnyH_take (i := 38) (oi := ({ dst := (some 49), op := (Op.binOp BinOp.geq 9 (Operand.tmp 43) (Operand.tmp 48) 9), type := 4, pos := "ref.go:40", after := #[{ on := 32, ground := Ground.data }, { on := 37, ground := Ground.data }, { on := 26, ground := Ground.guard }], guard := (some (26, true)) } : Oper)) (v := _) rfl (by kernel_rfl) (by kernel_rfl) (by kernel_rfl) (fun _ _ _ h => h) (Or.inr ⟨by rfl, rfl⟩) hHeld ?_
      try simp only [Act.put, List.setIfInBounds_toArray, List.set_cons_zero, List.set_cons_succ]
      refine wpAnyH_take (i := 39) (oi := ({ dst := (some 50), op := (Op.pick (Operand.tmp 37) (Operand.tmp 49) (Operand.const (Value.bool false))), type := 4, pos := "ref.go:40", after := #[{ on := 26, ground := Ground.data }, { on := 38, ground := Ground.data }, { on := 23, ground := Ground.guard }], guard := (some (23, false)) } : Oper)) (v := _) rfl (by kernel_rfl) (by kernel_rfl) (by kernel_rfl) (fun _ _ _ h => h) (Or.inr ⟨by rfl, rfl⟩) hHeld ?_
      try simp only [Act.put, List.setIfInBounds_toArray, List.set_cons_zero, List.set_cons_succ]
      refine wpAnyH_take (i := 40) (oi := ({ dst := (some 51), op := (Op.pick (Operand.tmp 34) (Operand.const (Value.bool true)) (Operand.tmp 50)), type := 4, pos := "ref.go:40", after := #[{ on := 23, ground := Ground.data }, { on := 39, ground := Ground.data }], guard := none } : Oper)) (v := ?_) rfl (by kernel_rfl) (by kernel_rfl) (by kernel_rfl) (fun _ _ _ h => h) (Or.inl ⟨by rfl, ?_⟩) hHeld ?_
      rotate_left
      · intro w_ hSw; (try dsimp only at hSw); obtain ⟨s1_, s2_⟩ := hSw; (try obtain ⟨s1_, s3_⟩ := s1_); go_simp; try (with_reducible rfl)
      try simp only [Act.put, List.setIfInBounds_toArray, List.set_cons_zero, List.set_cons_succ]
      refine wpAnyH_done (by kernel_rfl) ?_ _
      go_wp2_with fail
      go_ret
      exact ⟨by rw [HBAD.out HPD.out]; rfl, HP.out.below⟩
    have n2 : decide (65536 < y.f2) = false := decide_eq_false cm
    have n4 : y.f2 ≤ 65536 := by omega
    clear cm
    by_cases c0 : j = 0
    · have c0b : decide (0 < x) = false := decide_eq_false (by omega)
      have HPD := Aside0.mk (show linkAt l j y = (keyOk y.f0 && (decide (j = 0) || false) && decide (1 ≤ y.f2) && decide (y.f2 ≤ 65536)) from by unfold linkAt; simp [c0])
      clear hx c1
      refine held_named (S := (fun w' => w'.cell? ⟨Ab, Ao + x.toNat * 34, none⟩ = some (.string y.f0) ∧ w'.cell? ⟨Ab, Ao + x.toNat * 34 + 33, none⟩ = some (.int .i64 y.f2))) (by kernel_rfl) (fun wd6 hwd6 => ?_)
      have HPn := Aside0.mk (HP.out.drewN 1)
      rw [← World.drew_is_drewN, hwd6] at HPn
      clear HP hwd6
      have HP := HPn
      clear HPn
      refine ⟨by (try dsimp only); exact HYV.out _ HP.out.below, fun hHeld => ?_⟩
      refine wpAnyH_take (i := 0) (oi := ({ dst := (some 11), op := (Op.move (Operand.tmp 0)), type := 25, pos := "ref.go:40", after := #[], guard := none } : Oper)) (v := ?_) rfl (by kernel_rfl) (by kernel_rfl) (by kernel_rfl) (fun _ _ _ h => h) (Or.inl ⟨by rfl, ?_⟩) hHeld ?_
      rotate_left
      · intro w_ hSw; (try dsimp only at hSw); obtain ⟨s1_, s2_⟩ := hSw; (try obtain ⟨s1_, s3_⟩ := s1_); go_simp; try (with_reducible rfl)
      try simp only [Act.put, List.setIfInBounds_toArray, List.set_cons_zero, List.set_cons_succ]
      refine wpAnyH_take (i := 1) (oi := ({ dst := (some 12), op := (Op.move (Operand.tmp 4)), type := 3, pos := "ref.go:40", after := #[], guard := none } : Oper)) (v := ?_) rfl (by kernel_rfl) (by kernel_rfl) (by kernel_rfl) (fun _ _ _ h => h) (Or.inl ⟨by rfl, ?_⟩) hHeld ?_
      rotate_left
      · intro w_ hSw; (try dsimp only at hSw); obtain ⟨s1_, s2_⟩ := hSw; (try obtain ⟨s1_, s3_⟩ := s1_); go_simp; try (with_reducible rfl)
      try simp only [Act.put, List.setIfInBounds_toArray, List.set_cons_zero, List.set_cons_succ]
      refine wpAnyH_take (i := 2) (oi := ({ dst := (some 13), op := (Op.indexAddr 25 (Operand.tmp 11) (Operand.tmp 12)), type := 0, pos := "ref.go:40", after := #[{ on := 0, ground := Ground.data }, { on := 1, ground := Ground.data }], guard := none } : Oper)) (v := ?_) rfl (by kernel_rfl) (by kernel_rfl) (by kernel_rfl) (fun _ _ _ h => h) (Or.inl ⟨by rfl, ?_⟩) hHeld ?_
      rotate_left
      · intro w_ hSw; (try dsimp only at hSw); obtain ⟨s1_, s2_⟩ := hSw; (try obtain ⟨s1_, s3_⟩ := s1_); go_simp; try (with_reducible rfl)
      try simp only [Act.put, List.setIfInBounds_toArray, List.set_cons_zero, List.set_cons_succ]
      refine wpAnyH_take (i := 3) (oi := ({ dst := (some 14), op := (Op.fieldAddr 66 (Operand.tmp 13) 0), type := 0, pos := "ref.go:40", after := #[{ on := 2, ground := Ground.data }], guard := none } : Oper)) (v := ?_) rfl (by kernel_rfl) (by kernel_rfl) (by kernel_rfl) (fun _ _ _ h => h) (Or.inl ⟨by rfl, ?_⟩) hHeld ?_
      rotate_left
      · intro w_ hSw; (try dsimp only at hSw); obtain ⟨s1_, s2_⟩ := hSw; (try obtain ⟨s1_, s3_⟩ := s1_); go_simp; try (with_reducible rfl)
      try simp only [Act.put, List.setIfInBounds_toArray, List.set_cons_zero, List.set_cons_succ]
      refine wpAnyH_take (i := 4) (oi := ({ dst := (some 15), op := (Op.load 9 (Operand.tmp 14)), type := 9, pos := "ref.go:40", after := #[{ on := 3, ground := Ground.data }], guard := none } : Oper)) (v := ?_) rfl (by kernel_rfl) (by kernel_rfl) (by kernel_rfl) (fun _ _ _ h => h) (Or.inl ⟨by rfl, ?_⟩) hHeld ?_
      rotate_left
      · intro w_ hSw; (try dsimp only at hSw); obtain ⟨s1_, s2_⟩ := hSw; (try obtain ⟨s1_, s3_⟩ := s1_); go_simp; try (with_reducible rfl)
      try simp only [Act.put, List.setIfInBounds_toArray, List.set_cons_zero, List.set_cons_succ]
      refine wpAnyH_ready (rs := [5]) (by kernel_rfl) (by simp) ?_
      refine AllReadyH.cons (o := ({ dst := (some 16), op := (Op.call { callee := (Callee.value (Operand.func 87)), args := #[(Operand.tmp 15)], argTypes := #[9] }), type := 4, pos := "ref.go:40", after := #[{ on := 4, ground := Ground.data }], guard := none } : Oper)) rfl (fun K hK => ?_) AllReadyH.nil
      go_simp
      go_at_call 87; refine (c_rkey _ HKS.out _).mono ?_; rintro e w_ ⟨rfl, rfl⟩; (try rw [hkey])
      go_wp2_with fail
      clear hHeld
      refine hK.out _ _ ?_ (fun hHeld => ?_)
      · (try dsimp only); exact HYV.out _ HP.out.below
      clear hK K
      try simp only [Act.put, List.setIfInBounds_toArray, List.set_cons_zero, List.set_cons_succ]
      refine wpAnyH_take (i := 6) (oi := ({ dst := (some 17), op := (Op.unOp UnOp.not 4 (Operand.tmp 16)), type := 4, pos := "ref.go:40", after := #[{ on := 5, ground := Ground.data }], guard := none } : Oper)) (v := ?_) rfl (by kernel_rfl) (by kernel_rfl) (by kernel_rfl) (fun _ _ _ h => h) (Or.inl ⟨by rfl, ?_⟩) hHeld ?_
      rotate_left
      · intro w_ hSw; (try dsimp only at hSw); obtain ⟨s1_, s2_⟩ := hSw; (try obtain ⟨s1_, s3_⟩ := s1_); go_simp; try (with_reducible rfl)
      try simp only [Act.put, List.setIfInBounds_toArray, List.set_cons_zero, List.set_cons_succ]
      refine wpAnyH_take (i := 7) (oi := ({ dst := (some 18), op := (Op.move (Operand.tmp 17)), type := 4, pos := "ref.go:40", after := #[{ on := 6, ground := Ground.data }, { on := 5, ground := Ground.chain }], guard := none } : Oper)) (v := ?_) rfl (by kernel_rfl) (by kernel_rfl) (by kernel_rfl) (fun _ _ _ h => h) (Or.inl ⟨by rfl, ?_⟩) hHeld ?_
      rotate_left
      · intro w_ hSw; (try dsimp only at hSw); obtain ⟨s1_, s2_⟩ := hSw; (try obtain ⟨s1_, s3_⟩ := s1_); go_simp; try (with_reducible rfl)
      try simp only [Act.put, List.setIfInBounds_toArray, List.set_cons_zero, List.set_cons_succ]
      refine wpAnyH_take (i := 8) (oi := ({ dst := (some 19), op := (Op.move (Operand.tmp 0)), type := 25, pos := "ref.go:40", after := #[{ on := 7, ground := Ground.guard }], guard := (some (7, false)) } : Oper)) (v := ?_) rfl (by kernel_rfl) (by kernel_rfl) (by kernel_rfl) (fun _ _ _ h => h) (Or.inl ⟨by rfl, ?_⟩) hHeld ?_
      rotate_left
      · intro w_ hSw; (try dsimp only at hSw); obtain ⟨s1_, s2_⟩ := hSw; (try obtain ⟨s1_, s3_⟩ := s1_); go_simp; try (with_reducible rfl)
      try simp only [Act.put, List.setIfInBounds_toArray, List.set_cons_zero, List.set_cons_succ]
      refine wpAnyH_take (i := 9) (oi := ({ dst := (some 20), op := (Op.move (Operand.tmp 4)), type := 3, pos := "ref.go:40", after := #[{ on := 7, ground := Ground.guard }], guard := (some (7, false)) } : Oper)) (v := ?_) rfl (by kernel_rfl) (by kernel_rfl) (by kernel_rfl) (fun _ _ _ h => h) (Or.inl ⟨by rfl, ?_⟩) hHeld ?_
      rotate_left
      · intro w_ hSw; (try dsimp only at hSw); obtain ⟨s1_, s2_⟩ := hSw; (try obtain ⟨s1_, s3_⟩ := s1_); go_simp; try (with_reducible rfl)
      try simp only [Act.put, List.setIfInBounds_toArray, List.set_cons_zero, List.set_cons_succ]
      refine wpAnyH_take (i := 10) (oi := ({ dst := (some 21), op := (Op.indexAddr 25 (Operand.tmp 19) (Operand.tmp 20)), type := 0, pos := "ref.go:40", after := #[{ on := 8, ground := Ground.data }, { on := 9, ground := Ground.data }, { on := 7, ground := Ground.guard }], guard := (some (7, false)) } : Oper)) (v := ?_) rfl (by kernel_rfl) (by kernel_rfl) (by kernel_rfl) (fun _ _ _ h => h) (Or.inl ⟨by rfl, ?_⟩) hHeld ?_
      rotate_left
      · intro w_ hSw; (try dsimp only at hSw); obtain ⟨s1_, s2_⟩ := hSw; (try obtain ⟨s1_, s3_⟩ := s1_); go_simp; try (with_reducible rfl)
      try simp only [Act.put, List.setIfInBounds_toArray, List.set_cons_zero, List.set_cons_succ]
      refine wpAnyH_take (i := 11) (oi := ({ dst := (some 22), op := (Op.fieldAddr 66 (Operand.tmp 21) 2), type := 0, pos := "ref.go:40", after := #[{ on := 10, ground := Ground.data }, { on := 7, ground := Ground.guard }], guard := (some (7, false)) } : Oper)) (v := ?_) rfl (by kernel_rfl) (by kernel_rfl) (by kernel_rfl) (fun _ _ _ h => h) (Or.inl ⟨by rfl, ?_⟩) hHeld ?_
      rotate_left
      · intro w_ hSw; (try dsimp only at hSw); obtain ⟨s1_, s2_⟩ := hSw; (try obtain ⟨s1_, s3_⟩ := s1_); go_simp; try (with_reducible rfl)
      try simp only [Act.put, List.setIfInBounds_toArray, List.set_cons_zero, List.set_cons_succ]
      refine wpAnyH_take (i := 12) (oi := ({ dst := (some 23), op := (Op.load 3 (Operand.tmp 22)), type := 3, pos := "ref.go:40", after := #[{ on := 11, ground := Ground.data }, { on := 7, ground := Ground.guard }], guard := (some (7, false)) } : Oper)) (v := ?_) rfl (by kernel_rfl) (by kernel_rfl) (by kernel_rfl) (fun _ _ _ h => h) (Or.inl ⟨by rfl, ?_⟩) hHeld ?_
      rotate_left
      · intro w_ hSw; (try dsimp only at hSw); obtain ⟨s1_, s2_⟩ := hSw; (try obtain ⟨s1_, s3_⟩ := s1_); go_simp; try (with_reducible rfl)
      try simp only [Act.put, List.setIfInBounds_toArray, List.set_cons_zero, List.set_cons_succ]
      refine wpAnyH_take (i := 13) (oi := ({ dst := (some 24), op := (Op.binOp BinOp.lss 3 (Operand.tmp 23) (Operand.const (Value.int IntKind.i64 1)) 3), type := 4, pos := "ref.go:40", after := #[{ on := 12, ground := Ground.data }, { on := 7, ground := Ground.guard }], guard := (some (7, false)) } : Oper)) (v := ?_) rfl (by kernel_rfl) (by kernel_rfl) (by kernel_rfl) (fun _ _ _ h => h) (Or.inl ⟨by rfl, ?_⟩) hHeld ?_
      rotate_left
      · intro w_ hSw; (try dsimp only at hSw); obtain ⟨s1_, s2_⟩ := hSw; (try obtain ⟨s1_, s3_⟩ := s1_); go_simp; try (with_reducible rfl)
      try simp only [Act.put, List.setIfInBounds_toArray, List.set_cons_zero, List.set_cons_succ]
      refine wpAnyH_take (i := 14) (oi := ({ dst := (some 25), op := (Op.pick (Operand.tmp 18) (Operand.const (Value.bool true)) (Operand.tmp 24)), type := 4, pos := "ref.go:40", after := #[{ on := 7, ground := Ground.data }, { on := 13, ground := Ground.data }], guard := none } : Oper)) (v := ?_) rfl (by kernel_rfl) (by kernel_rfl) (by kernel_rfl) (fun _ _ _ h => h) (Or.inl ⟨by rfl, ?_⟩) hHeld ?_
      rotate_left
      · intro w_ hSw; (try dsimp only at hSw); obtain ⟨s1_, s2_⟩ := hSw; (try obtain ⟨s1_, s3_⟩ := s1_); go_simp; try (with_reducible rfl)
      try simp only [Act.put, List.setIfInBounds_toArray, List.set_cons_zero, List.set_cons_succ]
      refine wpAnyH_take (i := 15) (oi := ({ dst := (some 26), op := (Op.move (Operand.tmp 25)), type := 4, pos := "ref.go:40", after := #[{ on := 14, ground := Ground.data }, { on := 7, ground := Ground.chain }], guard := none } : Oper)) (v := ?_) rfl (by kernel_rfl) (by kernel_rfl) (by kernel_rfl) (fun _ _ _ h => h) (Or.inl ⟨by rfl, ?_⟩) hHeld ?_
      rotate_left
      · intro w_ hSw; (try dsimp only at hSw); obtain ⟨s1_, s2_⟩ := hSw; (try obtain ⟨s1_, s3_⟩ := s1_); go_simp; try (with_reducible rfl)
      try simp only [Act.put, List.setIfInBounds_toArray, List.set_cons_zero, List.set_cons_succ]
      refine wpAnyH_take (i := 16) (oi := ({ dst := (some 27), op := (Op.move (Operand.tmp 0)), type := 25, pos := "ref.go:40", after := #[{ on := 15, ground := Ground.guard }], guard := (some (15, false)) } : Oper)) (v := ?_) rfl (by kernel_rfl) (by kernel_rfl) (by kernel_rfl) (fun _ _ _ h => h) (Or.inl ⟨by rfl, ?_⟩) hHeld ?_
      rotate_left
      · intro w_ hSw; (try dsimp only at hSw); obtain ⟨s1_, s2_⟩ := hSw; (try obtain ⟨s1_, s3_⟩ := s1_); go_simp; try (with_reducible rfl)
      try simp only [Act.put, List.setIfInBounds_toArray, List.set_cons_zero, List.set_cons_succ]
      refine wpAnyH_take (i := 17) (oi := ({ dst := (some 28), op := (Op.move (Operand.tmp 4)), type := 3, pos := "ref.go:40", after := #[{ on := 15, ground := Ground.guard }], guard := (some (15, false)) } : Oper)) (v := ?_) rfl (by kernel_rfl) (by kernel_rfl) (by kernel_rfl) (fun _ _ _ h => h) (Or.inl ⟨by rfl, ?_⟩) hHeld ?_
      rotate_left
      · intro w_ hSw; (try dsimp only at hSw); obtain ⟨s1_, s2_⟩ := hSw; (try obtain ⟨s1_, s3_⟩ := s1_); go_simp; try (with_reducible rfl)
      try simp only [Act.put, List.setIfInBounds_toArray, List.set_cons_zero, List.set_cons_succ]
      refine wpAnyH_take (i := 18) (oi := ({ dst := (some 29), op := (Op.indexAddr 25 (Operand.tmp 27) (Operand.tmp 28)), type := 0, pos := "ref.go:40", after := #[{ on := 16, ground := Ground.data }, { on := 17, ground := Ground.data }, { on := 15, ground := Ground.guard }], guard := (some (15, false)) } : Oper)) (v := ?_) rfl (by kernel_rfl) (by kernel_rfl) (by kernel_rfl) (fun _ _ _ h => h) (Or.inl ⟨by rfl, ?_⟩) hHeld ?_
      rotate_left
      · intro w_ hSw; (try dsimp only at hSw); obtain ⟨s1_, s2_⟩ := hSw; (try obtain ⟨s1_, s3_⟩ := s1_); go_simp; try (with_reducible rfl)
      try simp only [Act.put, List.setIfInBounds_toArray, List.set_cons_zero, List.set_cons_succ]
      refine wpAnyH_take (i := 19) (oi := ({ dst := (some 30), op := (Op.fieldAddr 66 (Operand.tmp 29) 2), type := 0, pos := "ref.go:40", after := #[{ on := 18, ground := Ground.data }, { on := 15, ground := Ground.guard }], guard := (some (15, false)) } : Oper)) (v := ?_) rfl (by kernel_rfl) (by kernel_rfl) (by kernel_rfl) (fun _ _ _ h => h) (Or.inl ⟨by rfl, ?_⟩) hHeld ?_
      rotate_left
      · intro w_ hSw; (try dsimp only at hSw); obtain ⟨s1_, s2_⟩ := hSw; (try obtain ⟨s1_, s3_⟩ := s1_); go_simp; try (with_reducible rfl)
      try simp only [Act.put, List.setIfInBounds_toArray, List.set_cons_zero, List.set_cons_succ]
      refine wpAnyH_take (i := 20) (oi := ({ dst := (some 31), op := (Op.load 3 (Operand.tmp 30)), type := 3, pos := "ref.go:40", after := #[{ on := 19, ground := Ground.data }, { on := 15, ground := Ground.guard }], guard := (some (15, false)) } : Oper)) (v := ?_) rfl (by kernel_rfl) (by kernel_rfl) (by kernel_rfl) (fun _ _ _ h => h) (Or.inl ⟨by rfl, ?_⟩) hHeld ?_
      rotate_left
      · intro w_ hSw; (try dsimp only at hSw); obtain ⟨s1_, s2_⟩ := hSw; (try obtain ⟨s1_, s3_⟩ := s1_); go_simp; try (with_reducible rfl)
      try simp only [Act.put, List.setIfInBounds_toArray, List.set_cons_zero, List.set_cons_succ]
      refine wpAnyH_take (i := 21) (oi := ({ dst := (some 32), op := (Op.binOp BinOp.gtr 3 (Operand.tmp 31) (Operand.const (Value.int IntKind.i64 65536)) 3), type := 4, pos := "ref.go:40", after := #[{ on := 20, ground := Ground.data }, { on := 15, ground := Ground.guard }], guard := (some (15, false)) } : Oper)) (v := ?_) rfl (by kernel_rfl) (by kernel_rfl) (by kernel_rfl) (fun _ _ _ h => h) (Or.inl ⟨by rfl, ?_⟩) hHeld ?_
      rotate_left
      · intro w_ hSw; (try dsimp only at hSw); obtain ⟨s1_, s2_⟩ := hSw; (try obtain ⟨s1_, s3_⟩ := s1_); go_simp; try (with_reducible rfl)
      try simp only [Act.put, List.setIfInBounds_toArray, List.set_cons_zero, List.set_cons_succ]
      refine wpAnyH_take (i := 22) (oi := ({ dst := (some 33), op := (Op.pick (Operand.tmp 26) (Operand.const (Value.bool true)) (Operand.tmp 32)), type := 4, pos := "ref.go:40", after := #[{ on := 15, ground := Ground.data }, { on := 21, ground := Ground.data }], guard := none } : Oper)) (v := ?_) rfl (by kernel_rfl) (by kernel_rfl) (by kernel_rfl) (fun _ _ _ h => h) (Or.inl ⟨by rfl, ?_⟩) hHeld ?_
      rotate_left
      · intro w_ hSw; (try dsimp only at hSw); obtain ⟨s1_, s2_⟩ := hSw; (try obtain ⟨s1_, s3_⟩ := s1_); go_simp; try (with_reducible rfl)
      try simp only [Act.put, List.setIfInBounds_toArray, List.set_cons_zero, List.set_cons_succ]
      refine wpAnyH_take (i := 23) (oi := ({ dst := (some 34), op := (Op.move (Operand.tmp 33)), type := 4, pos := "ref.go:40", after := #[{ on := 22, ground := Ground.data }, { on := 15, ground := Ground.chain }], guard := none } : Oper)) (v := ?_) rfl (by kernel_rfl) (by kernel_rfl) (by kernel_rfl) (fun _ _ _ h => h) (Or.inl ⟨by rfl, ?_⟩) hHeld ?_
      rotate_left
      · intro w_ hSw; (try dsimp only at hSw); obtain ⟨s1_, s2_⟩ := hSw; (try obtain ⟨s1_, s3_⟩ := s1_); go_simp; try (with_reducible rfl)
      try simp only [Act.put, List.setIfInBounds_toArray, List.set_cons_zero, List.set_cons_succ]
      refine wpAnyH_take (i := 24) (oi := ({ dst := (some 35), op := (Op.move (Operand.tmp 4)), type := 3, pos := "ref.go:40", after := #[{ on := 23, ground := Ground.guard }], guard := (some (23, false)) } : Oper)) (v := ?_) rfl (by kernel_rfl) (by kernel_rfl) (by kernel_rfl) (fun _ _ _ h => h) (Or.inl ⟨by rfl, ?_⟩) hHeld ?_
      rotate_left
      · intro w_ hSw; (try dsimp only at hSw); obtain ⟨s1_, s2_⟩ := hSw; (try obtain ⟨s1_, s3_⟩ := s1_); go_simp; try (with_reducible rfl)
      try simp only [Act.put, List.setIfInBounds_toArray, List.set_cons_zero, List.set_cons_succ]
      refine wpAnyH_take (i := 25) (oi := ({ dst := (some 36), op := (Op.binOp BinOp.gtr 3 (Operand.tmp 35) (Operand.const (Value.int IntKind.i64 0)) 3), type := 4, pos := "ref.go:40", after := #[{ on := 24, ground := Ground.data }, { on := 23, ground := Ground.guard }], guard := (some (23, false)) } : Oper)) (v := ?_) rfl (by kernel_rfl) (by kernel_rfl) (by kernel_rfl) (fun _ _ _ h => h) (Or.inl ⟨by rfl, ?_⟩) hHeld ?_
      rotate_left
      · intro w_ hSw; (try dsimp only at hSw); obtain ⟨s1_, s2_⟩ := hSw; (try obtain ⟨s1_, s3_⟩ := s1_); go_simp; try (with_reducible rfl)
      try simp only [Act.put, List.setIfInBounds_toArray, List.set_cons_zero, List.set_cons_succ]
      refine wpAnyH_take (i := 26) (oi := ({ dst := (some 37), op := (Op.move (Operand.tmp 36)), type := 4, pos := "ref.go:40", after := #[{ on := 25, ground := Ground.data }, { on := 23, ground := Ground.chain }, { on := 23, ground := Ground.guard }], guard := (some (23, false)) } : Oper)) (v := ?_) rfl (by kernel_rfl) (by kernel_rfl) (by kernel_rfl) (fun _ _ _ h => h) (Or.inl ⟨by rfl, ?_⟩) hHeld ?_
      rotate_left
      · intro w_ hSw; (try dsimp only at hSw); obtain ⟨s1_, s2_⟩ := hSw; (try obtain ⟨s1_, s3_⟩ := s1_); go_simp; try (with_reducible rfl)
      try simp only [Act.put, List.setIfInBounds_toArray, List.set_cons_zero, List.set_cons_succ]
      refine wpAnyH_take (i := 27) (oi := ({ dst := (some 38), op := (Op.move (Operand.tmp 0)), type := 25, pos := "ref.go:40", after := #[{ on := 26, ground := Ground.guard }], guard := (some (26, true)) } : Oper)) (v := _) rfl (by kernel_rfl) (by kernel_rfl) (by kernel_rfl) (fun _ _ _ h => h) (Or.inr ⟨by rfl, rfl⟩) hHeld ?_
      try simp only [Act.put, List.setIfInBounds_toArray, List.set_cons_zero, List.set_cons_succ]
      refine wpAnyH_take (i := 28) (oi := ({ dst := (some 39), op := (Op.move (Operand.tmp 4)), type := 3, pos := "ref.go:40", after := #[{ on := 26, ground := Ground.guard }], guard := (some (26, true)) } : Oper)) (v := _) rfl (by kernel_rfl) (by kernel_rfl) (by kernel_rfl) (fun _ _ _ h => h) (Or.inr ⟨by rfl, rfl⟩) hHeld ?_
      try simp only [Act.put, List.setIfInBounds_toArray, List.set_cons_zero, List.set_cons_succ]
      refine wpAnyH_take (i := 29) (oi := ({ dst := (some 40), op := (Op.binOp BinOp.sub 3 (Operand.tmp 39) (Operand.const (Value.int IntKind.i64 1)) 3), type := 3, pos := "ref.go:40", after := #[{ on := 28, ground := Ground.data }, { on := 26, ground := Ground.guard }], guard := (some (26, true)) } : Oper)) (v := _) rfl (by kernel_rfl) (by kernel_rfl) (by kernel_rfl) (fun _ _ _ h => h) (Or.inr ⟨by rfl, rfl⟩) hHeld ?_
      try simp only [Act.put, List.setIfInBounds_toArray, List.set_cons_zero, List.set_cons_succ]
      refine wpAnyH_take (i := 30) (oi := ({ dst := (some 41), op := (Op.indexAddr 25 (Operand.tmp 38) (Operand.tmp 40)), type := 0, pos := "ref.go:40", after := #[{ on := 27, ground := Ground.data }, { on := 29, ground := Ground.data }, { on := 26, ground := Ground.guard }], guard := (some (26, true)) } : Oper)) (v := _) rfl (by kernel_rfl) (by kernel_rfl) (by kernel_rfl) (fun _ _ _ h => h) (Or.inr ⟨by rfl, rfl⟩) hHeld ?_
      try simp only [Act.put, List.setIfInBounds_toArray, List.set_cons_zero, List.set_cons_succ]
      refine wpAnyH_take (i := 31) (oi := ({ dst := (some 42), op := (Op.fieldAddr 66 (Operand.tmp 41) 0), type := 0, pos := "ref.go:40", after := #[{ on := 30, ground := Ground.data }, { on := 26, ground := Ground.guard }], guard := (some (26, true)) } : Oper)) (v := _) rfl (by kernel_rfl) (by kernel_rfl) (by kernel_rfl) (fun _ _ _ h => h) (Or.inr ⟨by rfl, rfl⟩) hHeld ?_
      try simp only [Act.put, List.setIfInBounds_toArray, List.set_cons_zero, List.set_cons_succ]
      refine wpAnyH_take (i := 32) (oi := ({ dst := (some 43), op := (Op.load 9 (Operand.tmp 42)), type := 9, pos := "ref.go:40", after := #[{ on := 31, ground := Ground.data }, { on := 26, ground := Ground.guard }], guard := (some (26, true)) } : Oper)) (v := _) rfl (by kernel_rfl) (by kernel_rfl) (by kernel_rfl) (fun _ _ _ h => h) (Or.inr ⟨by rfl, rfl⟩) hHeld ?_
      try simp only [Act.put, List.setIfInBounds_toArray, List.set_cons_zero, List.set_cons_succ]
      refine wpAnyH_take (i := 33) (oi := ({ dst := (some 44), op := (Op.move (Operand.tmp 0)), type := 25, pos := "ref.go:40", after := #[{ on := 26, ground := Ground.guard }], guard := (some (26, true)) } : Oper)) (v := _) rfl (by kernel_rfl) (by kernel_rfl) (by kernel_rfl) (fun _ _ _ h => h) (Or.inr ⟨by rfl, rfl⟩) hHeld ?_
      try simp only [Act.put, List.setIfInBounds_toArray, List.set_cons_zero, List.set_cons_succ]
      refine wpAnyH_take (i := 34) (oi := ({ dst := (some 45), op := (Op.move (Operand.tmp 4)), type := 3, pos := "ref.go:40", after := #[{ on := 26, ground := Ground.guard }], guard := (some (26, true)) } : Oper)) (v := _) rfl (by kernel_rfl) (by kernel_rfl) (by kernel_rfl) (fun _ _ _ h => h) (Or.inr ⟨by rfl, rfl⟩) hHeld ?_
      try simp only [Act.put, List.setIfInBounds_toArray, List.set_cons_zero, List.set_cons_succ]
      refine wpAnyH_take (i := 35) (oi := ({ dst := (some 46), op := (Op.indexAddr 25 (Operand.tmp 44) (Operand.tmp 45)), type := 0, pos := "ref.go:40", after := #[{ on := 33, ground := Ground.data }, { on := 34, ground := Ground.data }, { on := 26, ground := Ground.guard }], guard := (some (26, true)) } : Oper)) (v := _) rfl (by kernel_rfl) (by kernel_rfl) (by kernel_rfl) (fun _ _ _ h => h) (Or.inr ⟨by rfl, rfl⟩) hHeld ?_
      try simp only [Act.put, List.setIfInBounds_toArray, List.set_cons_zero, List.set_cons_succ]
      refine wpAnyH_take (i := 36) (oi := ({ dst := (some 47), op := (Op.fieldAddr 66 (Operand.tmp 46) 0), type := 0, pos := "ref.go:40", after := #[{ on := 35, ground := Ground.data }, { on := 26, ground := Ground.guard }], guard := (some (26, true)) } : Oper)) (v := _) rfl (by kernel_rfl) (by kernel_rfl) (by kernel_rfl) (fun _ _ _ h => h) (Or.inr ⟨by rfl, rfl⟩) hHeld ?_
      try simp only [Act.put, List.setIfInBounds_toArray, List.set_cons_zero, List.set_cons_succ]
      refine wpAnyH_take (i := 37) (oi := ({ dst := (some 48), op := (Op.load 9 (Operand.tmp 47)), type := 9, pos := "ref.go:40", after := #[{ on := 36, ground := Ground.data }, { on := 26, ground := Ground.guard }], guard := (some (26, true)) } : Oper)) (v := _) rfl (by kernel_rfl) (by kernel_rfl) (by kernel_rfl) (fun _ _ _ h => h) (Or.inr ⟨by rfl, rfl⟩) hHeld ?_
      try simp only [Act.put, List.setIfInBounds_toArray, List.set_cons_zero, List.set_cons_succ]
      refine wpAnyH_take (i := 38) (oi := ({ dst := (some 49), op := (Op.binOp BinOp.geq 9 (Operand.tmp 43) (Operand.tmp 48) 9), type := 4, pos := "ref.go:40", after := #[{ on := 32, ground := Ground.data }, { on := 37, ground := Ground.data }, { on := 26, ground := Ground.guard }], guard := (some (26, true)) } : Oper)) (v := _) rfl (by kernel_rfl) (by kernel_rfl) (by kernel_rfl) (fun _ _ _ h => h) (Or.inr ⟨by rfl, rfl⟩) hHeld ?_
      try simp only [Act.put, List.setIfInBounds_toArray, List.set_cons_zero, List.set_cons_succ]
      refine wpAnyH_take (i := 39) (oi := ({ dst := (some 50), op := (Op.pick (Operand.tmp 37) (Operand.tmp 49) (Operand.const (Value.bool false))), type := 4, pos := "ref.go:40", after := #[{ on := 26, ground := Ground.data }, { on := 38, ground := Ground.data }, { on := 23, ground := Ground.guard }], guard := (some (23, false)) } : Oper)) (v := ?_) rfl (by kernel_rfl) (by kernel_rfl) (by kernel_rfl) (fun _ _ _ h => h) (Or.inl ⟨by rfl, ?_⟩) hHeld ?_
      rotate_left
      · intro w_ hSw; (try dsimp only at hSw); obtain ⟨s1_, s2_⟩ := hSw; (try obtain ⟨s1_, s3_⟩ := s1_); go_simp; try (with_reducible rfl)
      try simp only [Act.put, List.setIfInBounds_toArray, List.set_cons_zero, List.set_cons_succ]
      refine wpAnyH_take (i := 40) (oi := ({ dst := (some 51), op := (Op.pick (Operand.tmp 34) (Operand.const (Value.bool true)) (Operand.tmp 50)), type := 4, pos := "ref.go:40", after := #[{ on := 23, ground := Ground.data }, { on := 39, ground := Ground.data }], guard := none } : Oper)) (v := ?_) rfl (by kernel_rfl) (by kernel_rfl) (by kernel_rfl) (fun _ _ _ h => h) (Or.inl ⟨by rfl, ?_⟩) hHeld ?_
      rotate_left
      · intro w_ hSw; (try dsimp only at hSw); obtain ⟨s1_, s2_⟩ := hSw; (try obtain ⟨s1_, s3_⟩ := s1_); go_simp; try (with_reducible rfl)
      try simp only [Act.put, List.setIfInBounds_toArray, List.set_cons_zero, List.set_cons_succ]
      refine wpAnyH_done (by kernel_rfl) ?_ _
      have hyl := (HYV.out _ HP.out.below).2
      have es : IntKind.i64.wrap (s + y.f2) = s + y.f2 := IntWalk.i64_in _ (by have h1 := HSB.out; have h2 := HL.out; have h3 := HK.out; omega)
      go_wp2_with fail
      go_roundg (gk - 1)
      case measure => have := HK.out; have := (List.getElem?_eq_some_iff.1 HY.out).1; omega
      case rel => exact ⟨j + 1, x + 1, s + y.f2, rfl, rfl, ⟨by have := HX.out; omega⟩, ⟨by have := HK.out; have := (List.getElem?_eq_some_iff.1 HY.out).1; omega⟩, ⟨by rw [linksTo_succ, HG.out, HYD.out, HPD.out]; simp [*]⟩, ⟨by rw [sum_take l j y HY.out, HS.out]⟩, HP⟩
    · have c0b : decide (0 < x) = true := decide_eq_true (by omega)
      have ex2 : IntKind.i64.wrap (x - 1) = x - 1 := IntWalk.i64_in _ (by omega)
      have p3 : 1 ≤ x := by omega
      have q3 : x - 1 < (l.length : Int) := by omega
      obtain ⟨p, hp⟩ : ∃ p, l[j - 1]? = some p := ⟨_, List.getElem?_eq_getElem (by omega)⟩
      obtain ⟨cs, hcs, hra⟩ := range_K HR.out hp
      have hcs2 := k66_open hcs
      subst hcs2
      have hxt : x.toNat - 1 = j - 1 := by omega
      have HPV := Aside0.mk (fun w' (hb : Below w.heap.size w w') => (show w'.cell? ⟨Ab, Ao + (x.toNat - 1) * 34, none⟩ = some (.string p.f0) from by
        have h0 := hra 0 _ rfl
        rw [hxt]
        exact (hb.cell (World.block_lt_of_cell? w _ h0)).trans h0))
      have HPD := Aside0.mk (show linkAt l j y = (keyOk y.f0 && (decide (j = 0) || Op.bytesLess p.f0.toList y.f0.toList) && decide (1 ≤ y.f2) && decide (y.f2 ≤ 65536)) from by unfold linkAt; rw [show l.getD (j - 1) z66 = p from by rw [List.getD_eq_getElem?_getD, hp]; rfl])
      clear hp hcs hra hxt hx c1
      cases hbl : Op.bytesLess p.f0.toList y.f0.toList with
      | true =>
        refine held_named (S := (fun w' => (w'.cell? ⟨Ab, Ao + x.toNat * 34, none⟩ = some (.string y.f0) ∧ w'.cell? ⟨Ab, Ao + x.toNat * 34 + 33, none⟩ = some (.int .i64 y.f2)) ∧ w'.cell? ⟨Ab, Ao + (x.toNat - 1) * 34, none⟩ = some (.string p.f0))) (by kernel_rfl) (fun wd6 hwd6 => ?_)
        have HPn := Aside0.mk (HP.out.drewN 1)
        rw [← World.drew_is_drewN, hwd6] at HPn
        clear HP hwd6
        have HP := HPn
        clear HPn
        refine ⟨by (try dsimp only); exact ⟨HYV.out _ HP.out.below, HPV.out _ HP.out.below⟩, fun hHeld => ?_⟩
        refine wpAnyH_take (i := 0) (oi := ({ dst := (some 11), op := (Op.move (Operand.tmp 0)), type := 25, pos := "ref.go:40", after := #[], guard := none } : Oper)) (v := ?_) rfl (by kernel_rfl) (by kernel_rfl) (by kernel_rfl) (fun _ _ _ h => h) (Or.inl ⟨by rfl, ?_⟩) hHeld ?_
        rotate_left
        · intro w_ hSw; (try dsimp only at hSw); obtain ⟨s1_, s2_⟩ := hSw; (try obtain ⟨s1_, s3_⟩ := s1_); go_simp; try (with_reducible rfl)
        try simp only [Act.put, List.setIfInBounds_toArray, List.set_cons_zero, List.set_cons_succ]
        refine wpAnyH_take (i := 1) (oi := ({ dst := (some 12), op := (Op.move (Operand.tmp 4)), type := 3, pos := "ref.go:40", after := #[], guard := none } : Oper)) (v := ?_) rfl (by kernel_rfl) (by kernel_rfl) (by kernel_rfl) (fun _ _ _ h => h) (Or.inl ⟨by rfl, ?_⟩) hHeld ?_
        rotate_left
        · intro w_ hSw; (try dsimp only at hSw); obtain ⟨s1_, s2_⟩ := hSw; (try obtain ⟨s1_, s3_⟩ := s1_); go_simp; try (with_reducible rfl)
        try simp only [Act.put, List.setIfInBounds_toArray, List.set_cons_zero, List.set_cons_succ]
        refine wpAnyH_take (i := 2) (oi := ({ dst := (some 13), op := (Op.indexAddr 25 (Operand.tmp 11) (Operand.tmp 12)), type := 0, pos := "ref.go:40", after := #[{ on := 0, ground := Ground.data }, { on := 1, ground := Ground.data }], guard := none } : Oper)) (v := ?_) rfl (by kernel_rfl) (by kernel_rfl) (by kernel_rfl) (fun _ _ _ h => h) (Or.inl ⟨by rfl, ?_⟩) hHeld ?_
        rotate_left
        · intro w_ hSw; (try dsimp only at hSw); obtain ⟨s1_, s2_⟩ := hSw; (try obtain ⟨s1_, s3_⟩ := s1_); go_simp; try (with_reducible rfl)
        try simp only [Act.put, List.setIfInBounds_toArray, List.set_cons_zero, List.set_cons_succ]
        refine wpAnyH_take (i := 3) (oi := ({ dst := (some 14), op := (Op.fieldAddr 66 (Operand.tmp 13) 0), type := 0, pos := "ref.go:40", after := #[{ on := 2, ground := Ground.data }], guard := none } : Oper)) (v := ?_) rfl (by kernel_rfl) (by kernel_rfl) (by kernel_rfl) (fun _ _ _ h => h) (Or.inl ⟨by rfl, ?_⟩) hHeld ?_
        rotate_left
        · intro w_ hSw; (try dsimp only at hSw); obtain ⟨s1_, s2_⟩ := hSw; (try obtain ⟨s1_, s3_⟩ := s1_); go_simp; try (with_reducible rfl)
        try simp only [Act.put, List.setIfInBounds_toArray, List.set_cons_zero, List.set_cons_succ]
        refine wpAnyH_take (i := 4) (oi := ({ dst := (some 15), op := (Op.load 9 (Operand.tmp 14)), type := 9, pos := "ref.go:40", after := #[{ on := 3, ground := Ground.data }], guard := none } : Oper)) (v := ?_) rfl (by kernel_rfl) (by kernel_rfl) (by kernel_rfl) (fun _ _ _ h => h) (Or.inl ⟨by rfl, ?_⟩) hHeld ?_
        rotate_left
        · intro w_ hSw; (try dsimp only at hSw); obtain ⟨s1_, s2_⟩ := hSw; (try obtain ⟨s1_, s3_⟩ := s1_); go_simp; try (with_reducible rfl)
        try simp only [Act.put, List.setIfInBounds_toArray, List.set_cons_zero, List.set_cons_succ]
        refine wpAnyH_ready (rs := [5]) (by kernel_rfl) (by simp) ?_
        refine AllReadyH.cons (o := ({ dst := (some 16), op := (Op.call { callee := (Callee.value (Operand.func 87)), args := #[(Operand.tmp 15)], argTypes := #[9] }), type := 4, pos := "ref.go:40", after := #[{ on := 4, ground := Ground.data }], guard := none } : Oper)) rfl (fun K hK => ?_) AllReadyH.nil
        go_simp
        go_at_call 87; refine (c_rkey _ HKS.out _).mono ?_; rintro e w_ ⟨rfl, rfl⟩; (try rw [hkey])
        go_wp2_with fail
        clear hHeld
        refine hK.out _ _ ?_ (fun hHeld => ?_)
        · (try dsimp only); exact ⟨HYV.out _ HP.out.below, HPV.out _ HP.out.below⟩
        clear hK K
        try simp only [Act.put, List.setIfInBounds_toArray, List.set_cons_zero, List.set_cons_succ]
        refine wpAnyH_take (i := 6) (oi := ({ dst := (some 17), op := (Op.unOp UnOp.not 4 (Operand.tmp 16)), type := 4, pos := "ref.go:40", after := #[{ on := 5, ground := Ground.data }], guard := none } : Oper)) (v := ?_) rfl (by kernel_rfl) (by kernel_rfl) (by kernel_rfl) (fun _ _ _ h => h) (Or.inl ⟨by rfl, ?_⟩) hHeld ?_
        rotate_left
        · intro w_ hSw; (try dsimp only at hSw); obtain ⟨s1_, s2_⟩ := hSw; (try obtain ⟨s1_, s3_⟩ := s1_); go_simp; try (with_reducible rfl)
        try simp only [Act.put, List.setIfInBounds_toArray, List.set_cons_zero, List.set_cons_succ]
        refine wpAnyH_take (i := 7) (oi := ({ dst := (some 18), op := (Op.move (Operand.tmp 17)), type := 4, pos := "ref.go:40", after := #[{ on := 6, ground := Ground.data }, { on := 5, ground := Ground.chain }], guard := none } : Oper)) (v := ?_) rfl (by kernel_rfl) (by kernel_rfl) (by kernel_rfl) (fun _ _ _ h => h) (Or.inl ⟨by rfl, ?_⟩) hHeld ?_
        rotate_left
        · intro w_ hSw; (try dsimp only at hSw); obtain ⟨s1_, s2_⟩ := hSw; (try obtain ⟨s1_, s3_⟩ := s1_); go_simp; try (with_reducible rfl)
        try simp only [Act.put, List.setIfInBounds_toArray, List.set_cons_zero, List.set_cons_succ]
        refine wpAnyH_take (i := 8) (oi := ({ dst := (some 19), op := (Op.move (Operand.tmp 0)), type := 25, pos := "ref.go:40", after := #[{ on := 7, ground := Ground.guard }], guard := (some (7, false)) } : Oper)) (v := ?_) rfl (by kernel_rfl) (by kernel_rfl) (by kernel_rfl) (fun _ _ _ h => h) (Or.inl ⟨by rfl, ?_⟩) hHeld ?_
        rotate_left
        · intro w_ hSw; (try dsimp only at hSw); obtain ⟨s1_, s2_⟩ := hSw; (try obtain ⟨s1_, s3_⟩ := s1_); go_simp; try (with_reducible rfl)
        try simp only [Act.put, List.setIfInBounds_toArray, List.set_cons_zero, List.set_cons_succ]
        refine wpAnyH_take (i := 9) (oi := ({ dst := (some 20), op := (Op.move (Operand.tmp 4)), type := 3, pos := "ref.go:40", after := #[{ on := 7, ground := Ground.guard }], guard := (some (7, false)) } : Oper)) (v := ?_) rfl (by kernel_rfl) (by kernel_rfl) (by kernel_rfl) (fun _ _ _ h => h) (Or.inl ⟨by rfl, ?_⟩) hHeld ?_
        rotate_left
        · intro w_ hSw; (try dsimp only at hSw); obtain ⟨s1_, s2_⟩ := hSw; (try obtain ⟨s1_, s3_⟩ := s1_); go_simp; try (with_reducible rfl)
        try simp only [Act.put, List.setIfInBounds_toArray, List.set_cons_zero, List.set_cons_succ]
        refine wpAnyH_take (i := 10) (oi := ({ dst := (some 21), op := (Op.indexAddr 25 (Operand.tmp 19) (Operand.tmp 20)), type := 0, pos := "ref.go:40", after := #[{ on := 8, ground := Ground.data }, { on := 9, ground := Ground.data }, { on := 7, ground := Ground.guard }], guard := (some (7, false)) } : Oper)) (v := ?_) rfl (by kernel_rfl) (by kernel_rfl) (by kernel_rfl) (fun _ _ _ h => h) (Or.inl ⟨by rfl, ?_⟩) hHeld ?_
        rotate_left
        · intro w_ hSw; (try dsimp only at hSw); obtain ⟨s1_, s2_⟩ := hSw; (try obtain ⟨s1_, s3_⟩ := s1_); go_simp; try (with_reducible rfl)
        try simp only [Act.put, List.setIfInBounds_toArray, List.set_cons_zero, List.set_cons_succ]
        refine wpAnyH_take (i := 11) (oi := ({ dst := (some 22), op := (Op.fieldAddr 66 (Operand.tmp 21) 2), type := 0, pos := "ref.go:40", after := #[{ on := 10, ground := Ground.data }, { on := 7, ground := Ground.guard }], guard := (some (7, false)) } : Oper)) (v := ?_) rfl (by kernel_rfl) (by kernel_rfl) (by kernel_rfl) (fun _ _ _ h => h) (Or.inl ⟨by rfl, ?_⟩) hHeld ?_
        rotate_left
        · intro w_ hSw; (try dsimp only at hSw); obtain ⟨s1_, s2_⟩ := hSw; (try obtain ⟨s1_, s3_⟩ := s1_); go_simp; try (with_reducible rfl)
        try simp only [Act.put, List.setIfInBounds_toArray, List.set_cons_zero, List.set_cons_succ]
        refine wpAnyH_take (i := 12) (oi := ({ dst := (some 23), op := (Op.load 3 (Operand.tmp 22)), type := 3, pos := "ref.go:40", after := #[{ on := 11, ground := Ground.data }, { on := 7, ground := Ground.guard }], guard := (some (7, false)) } : Oper)) (v := ?_) rfl (by kernel_rfl) (by kernel_rfl) (by kernel_rfl) (fun _ _ _ h => h) (Or.inl ⟨by rfl, ?_⟩) hHeld ?_
        rotate_left
        · intro w_ hSw; (try dsimp only at hSw); obtain ⟨s1_, s2_⟩ := hSw; (try obtain ⟨s1_, s3_⟩ := s1_); go_simp; try (with_reducible rfl)
        try simp only [Act.put, List.setIfInBounds_toArray, List.set_cons_zero, List.set_cons_succ]
        refine wpAnyH_take (i := 13) (oi := ({ dst := (some 24), op := (Op.binOp BinOp.lss 3 (Operand.tmp 23) (Operand.const (Value.int IntKind.i64 1)) 3), type := 4, pos := "ref.go:40", after := #[{ on := 12, ground := Ground.data }, { on := 7, ground := Ground.guard }], guard := (some (7, false)) } : Oper)) (v := ?_) rfl (by kernel_rfl) (by kernel_rfl) (by kernel_rfl) (fun _ _ _ h => h) (Or.inl ⟨by rfl, ?_⟩) hHeld ?_
        rotate_left
        · intro w_ hSw; (try dsimp only at hSw); obtain ⟨s1_, s2_⟩ := hSw; (try obtain ⟨s1_, s3_⟩ := s1_); go_simp; try (with_reducible rfl)
        try simp only [Act.put, List.setIfInBounds_toArray, List.set_cons_zero, List.set_cons_succ]
        refine wpAnyH_take (i := 14) (oi := ({ dst := (some 25), op := (Op.pick (Operand.tmp 18) (Operand.const (Value.bool true)) (Operand.tmp 24)), type := 4, pos := "ref.go:40", after := #[{ on := 7, ground := Ground.data }, { on := 13, ground := Ground.data }], guard := none } : Oper)) (v := ?_) rfl (by kernel_rfl) (by kernel_rfl) (by kernel_rfl) (fun _ _ _ h => h) (Or.inl ⟨by rfl, ?_⟩) hHeld ?_
        rotate_left
        · intro w_ hSw; (try dsimp only at hSw); obtain ⟨s1_, s2_⟩ := hSw; (try obtain ⟨s1_, s3_⟩ := s1_); go_simp; try (with_reducible rfl)
        try simp only [Act.put, List.setIfInBounds_toArray, List.set_cons_zero, List.set_cons_succ]
        refine wpAnyH_take (i := 15) (oi := ({ dst := (some 26), op := (Op.move (Operand.tmp 25)), type := 4, pos := "ref.go:40", after := #[{ on := 14, ground := Ground.data }, { on := 7, ground := Ground.chain }], guard := none } : Oper)) (v := ?_) rfl (by kernel_rfl) (by kernel_rfl) (by kernel_rfl) (fun _ _ _ h => h) (Or.inl ⟨by rfl, ?_⟩) hHeld ?_
        rotate_left
        · intro w_ hSw; (try dsimp only at hSw); obtain ⟨s1_, s2_⟩ := hSw; (try obtain ⟨s1_, s3_⟩ := s1_); go_simp; try (with_reducible rfl)
        try simp only [Act.put, List.setIfInBounds_toArray, List.set_cons_zero, List.set_cons_succ]
        refine wpAnyH_take (i := 16) (oi := ({ dst := (some 27), op := (Op.move (Operand.tmp 0)), type := 25, pos := "ref.go:40", after := #[{ on := 15, ground := Ground.guard }], guard := (some (15, false)) } : Oper)) (v := ?_) rfl (by kernel_rfl) (by kernel_rfl) (by kernel_rfl) (fun _ _ _ h => h) (Or.inl ⟨by rfl, ?_⟩) hHeld ?_
        rotate_left
        · intro w_ hSw; (try dsimp only at hSw); obtain ⟨s1_, s2_⟩ := hSw; (try obtain ⟨s1_, s3_⟩ := s1_); go_simp; try (with_reducible rfl)
        try simp only [Act.put, List.setIfInBounds_toArray, List.set_cons_zero, List.set_cons_succ]
        refine wpAnyH_take (i := 17) (oi := ({ dst := (some 28), op := (Op.move (Operand.tmp 4)), type := 3, pos := "ref.go:40", after := #[{ on := 15, ground := Ground.guard }], guard := (some (15, false)) } : Oper)) (v := ?_) rfl (by kernel_rfl) (by kernel_rfl) (by kernel_rfl) (fun _ _ _ h => h) (Or.inl ⟨by rfl, ?_⟩) hHeld ?_
        rotate_left
        · intro w_ hSw; (try dsimp only at hSw); obtain ⟨s1_, s2_⟩ := hSw; (try obtain ⟨s1_, s3_⟩ := s1_); go_simp; try (with_reducible rfl)
        try simp only [Act.put, List.setIfInBounds_toArray, List.set_cons_zero, List.set_cons_succ]
        refine wpAnyH_take (i := 18) (oi := ({ dst := (some 29), op := (Op.indexAddr 25 (Operand.tmp 27) (Operand.tmp 28)), type := 0, pos := "ref.go:40", after := #[{ on := 16, ground := Ground.data }, { on := 17, ground := Ground.data }, { on := 15, ground := Ground.guard }], guard := (some (15, false)) } : Oper)) (v := ?_) rfl (by kernel_rfl) (by kernel_rfl) (by kernel_rfl) (fun _ _ _ h => h) (Or.inl ⟨by rfl, ?_⟩) hHeld ?_
        rotate_left
        · intro w_ hSw; (try dsimp only at hSw); obtain ⟨s1_, s2_⟩ := hSw; (try obtain ⟨s1_, s3_⟩ := s1_); go_simp; try (with_reducible rfl)
        try simp only [Act.put, List.setIfInBounds_toArray, List.set_cons_zero, List.set_cons_succ]
        refine wpAnyH_take (i := 19) (oi := ({ dst := (some 30), op := (Op.fieldAddr 66 (Operand.tmp 29) 2), type := 0, pos := "ref.go:40", after := #[{ on := 18, ground := Ground.data }, { on := 15, ground := Ground.guard }], guard := (some (15, false)) } : Oper)) (v := ?_) rfl (by kernel_rfl) (by kernel_rfl) (by kernel_rfl) (fun _ _ _ h => h) (Or.inl ⟨by rfl, ?_⟩) hHeld ?_
        rotate_left
        · intro w_ hSw; (try dsimp only at hSw); obtain ⟨s1_, s2_⟩ := hSw; (try obtain ⟨s1_, s3_⟩ := s1_); go_simp; try (with_reducible rfl)
        try simp only [Act.put, List.setIfInBounds_toArray, List.set_cons_zero, List.set_cons_succ]
        refine wpAnyH_take (i := 20) (oi := ({ dst := (some 31), op := (Op.load 3 (Operand.tmp 30)), type := 3, pos := "ref.go:40", after := #[{ on := 19, ground := Ground.data }, { on := 15, ground := Ground.guard }], guard := (some (15, false)) } : Oper)) (v := ?_) rfl (by kernel_rfl) (by kernel_rfl) (by kernel_rfl) (fun _ _ _ h => h) (Or.inl ⟨by rfl, ?_⟩) hHeld ?_
        rotate_left
        · intro w_ hSw; (try dsimp only at hSw); obtain ⟨s1_, s2_⟩ := hSw; (try obtain ⟨s1_, s3_⟩ := s1_); go_simp; try (with_reducible rfl)
        try simp only [Act.put, List.setIfInBounds_toArray, List.set_cons_zero, List.set_cons_succ]
        refine wpAnyH_take (i := 21) (oi := ({ dst := (some 32), op := (Op.binOp BinOp.gtr 3 (Operand.tmp 31) (Operand.const (Value.int IntKind.i64 65536)) 3), type := 4, pos := "ref.go:40", after := #[{ on := 20, ground := Ground.data }, { on := 15, ground := Ground.guard }], guard := (some (15, false)) } : Oper)) (v := ?_) rfl (by kernel_rfl) (by kernel_rfl) (by kernel_rfl) (fun _ _ _ h => h) (Or.inl ⟨by rfl, ?_⟩) hHeld ?_
        rotate_left
        · intro w_ hSw; (try dsimp only at hSw); obtain ⟨s1_, s2_⟩ := hSw; (try obtain ⟨s1_, s3_⟩ := s1_); go_simp; try (with_reducible rfl)
        try simp only [Act.put, List.setIfInBounds_toArray, List.set_cons_zero, List.set_cons_succ]
        refine wpAnyH_take (i := 22) (oi := ({ dst := (some 33), op := (Op.pick (Operand.tmp 26) (Operand.const (Value.bool true)) (Operand.tmp 32)), type := 4, pos := "ref.go:40", after := #[{ on := 15, ground := Ground.data }, { on := 21, ground := Ground.data }], guard := none } : Oper)) (v := ?_) rfl (by kernel_rfl) (by kernel_rfl) (by kernel_rfl) (fun _ _ _ h => h) (Or.inl ⟨by rfl, ?_⟩) hHeld ?_
        rotate_left
        · intro w_ hSw; (try dsimp only at hSw); obtain ⟨s1_, s2_⟩ := hSw; (try obtain ⟨s1_, s3_⟩ := s1_); go_simp; try (with_reducible rfl)
        try simp only [Act.put, List.setIfInBounds_toArray, List.set_cons_zero, List.set_cons_succ]
        refine wpAnyH_take (i := 23) (oi := ({ dst := (some 34), op := (Op.move (Operand.tmp 33)), type := 4, pos := "ref.go:40", after := #[{ on := 22, ground := Ground.data }, { on := 15, ground := Ground.chain }], guard := none } : Oper)) (v := ?_) rfl (by kernel_rfl) (by kernel_rfl) (by kernel_rfl) (fun _ _ _ h => h) (Or.inl ⟨by rfl, ?_⟩) hHeld ?_
        rotate_left
        · intro w_ hSw; (try dsimp only at hSw); obtain ⟨s1_, s2_⟩ := hSw; (try obtain ⟨s1_, s3_⟩ := s1_); go_simp; try (with_reducible rfl)
        try simp only [Act.put, List.setIfInBounds_toArray, List.set_cons_zero, List.set_cons_succ]
        refine wpAnyH_take (i := 24) (oi := ({ dst := (some 35), op := (Op.move (Operand.tmp 4)), type := 3, pos := "ref.go:40", after := #[{ on := 23, ground := Ground.guard }], guard := (some (23, false)) } : Oper)) (v := ?_) rfl (by kernel_rfl) (by kernel_rfl) (by kernel_rfl) (fun _ _ _ h => h) (Or.inl ⟨by rfl, ?_⟩) hHeld ?_
        rotate_left
        · intro w_ hSw; (try dsimp only at hSw); obtain ⟨s1_, s2_⟩ := hSw; (try obtain ⟨s1_, s3_⟩ := s1_); go_simp; try (with_reducible rfl)
        try simp only [Act.put, List.setIfInBounds_toArray, List.set_cons_zero, List.set_cons_succ]
        refine wpAnyH_take (i := 25) (oi := ({ dst := (some 36), op := (Op.binOp BinOp.gtr 3 (Operand.tmp 35) (Operand.const (Value.int IntKind.i64 0)) 3), type := 4, pos := "ref.go:40", after := #[{ on := 24, ground := Ground.data }, { on := 23, ground := Ground.guard }], guard := (some (23, false)) } : Oper)) (v := ?_) rfl (by kernel_rfl) (by kernel_rfl) (by kernel_rfl) (fun _ _ _ h => h) (Or.inl ⟨by rfl, ?_⟩) hHeld ?_
        rotate_left
        · intro w_ hSw; (try dsimp only at hSw); obtain ⟨s1_, s2_⟩ := hSw; (try obtain ⟨s1_, s3_⟩ := s1_); go_simp; try (with_reducible rfl)
        try simp only [Act.put, List.setIfInBounds_toArray, List.set_cons_zero, List.set_cons_succ]
        refine wpAnyH_take (i := 26) (oi := ({ dst := (some 37), op := (Op.move (Operand.tmp 36)), type := 4, pos := "ref.go:40", after := #[{ on := 25, ground := Ground.data }, { on := 23, ground := Ground.chain }, { on := 23, ground := Ground.guard }], guard := (some (23, false)) } : Oper)) (v := ?_) rfl (by kernel_rfl) (by kernel_rfl) (by kernel_rfl) (fun _ _ _ h => h) (Or.inl ⟨by rfl, ?_⟩) hHeld ?_
        rotate_left
        · intro w_ hSw; (try dsimp only at hSw); obtain ⟨s1_, s2_⟩ := hSw; (try obtain ⟨s1_, s3_⟩ := s1_); go_simp; try (with_reducible rfl)
        try simp only [Act.put, List.setIfInBounds_toArray, List.set_cons_zero, List.set_cons_succ]
        refine wpAnyH_take (i := 27) (oi := ({ dst := (some 38), op := (Op.move (Operand.tmp 0)), type := 25, pos := "ref.go:40", after := #[{ on := 26, ground := Ground.guard }], guard := (some (26, true)) } : Oper)) (v := ?_) rfl (by kernel_rfl) (by kernel_rfl) (by kernel_rfl) (fun _ _ _ h => h) (Or.inl ⟨by rfl, ?_⟩) hHeld ?_
        rotate_left
        · intro w_ hSw; (try dsimp only at hSw); obtain ⟨s1_, s2_⟩ := hSw; (try obtain ⟨s1_, s3_⟩ := s1_); go_simp; try (with_reducible rfl)
        try simp only [Act.put, List.setIfInBounds_toArray, List.set_cons_zero, List.set_cons_succ]
        refine wpAnyH_take (i := 28) (oi := ({ dst := (some 39), op := (Op.move (Operand.tmp 4)), type := 3, pos := "ref.go:40", after := #[{ on := 26, ground := Ground.guard }], guard := (some (26, true)) } : Oper)) (v := ?_) rfl (by kernel_rfl) (by kernel_rfl) (by kernel_rfl) (fun _ _ _ h => h) (Or.inl ⟨by rfl, ?_⟩) hHeld ?_
        rotate_left
        · intro w_ hSw; (try dsimp only at hSw); obtain ⟨s1_, s2_⟩ := hSw; (try obtain ⟨s1_, s3_⟩ := s1_); go_simp; try (with_reducible rfl)
        try simp only [Act.put, List.setIfInBounds_toArray, List.set_cons_zero, List.set_cons_succ]
        refine wpAnyH_take (i := 29) (oi := ({ dst := (some 40), op := (Op.binOp BinOp.sub 3 (Operand.tmp 39) (Operand.const (Value.int IntKind.i64 1)) 3), type := 3, pos := "ref.go:40", after := #[{ on := 28, ground := Ground.data }, { on := 26, ground := Ground.guard }], guard := (some (26, true)) } : Oper)) (v := ?_) rfl (by kernel_rfl) (by kernel_rfl) (by kernel_rfl) (fun _ _ _ h => h) (Or.inl ⟨by rfl, ?_⟩) hHeld ?_
        rotate_left
        · intro w_ hSw; (try dsimp only at hSw); obtain ⟨s1_, s2_⟩ := hSw; (try obtain ⟨s1_, s3_⟩ := s1_); go_simp; try (with_reducible rfl)
        try simp only [Act.put, List.setIfInBounds_toArray, List.set_cons_zero, List.set_cons_succ]
        refine wpAnyH_take (i := 30) (oi := ({ dst := (some 41), op := (Op.indexAddr 25 (Operand.tmp 38) (Operand.tmp 40)), type := 0, pos := "ref.go:40", after := #[{ on := 27, ground := Ground.data }, { on := 29, ground := Ground.data }, { on := 26, ground := Ground.guard }], guard := (some (26, true)) } : Oper)) (v := ?_) rfl (by kernel_rfl) (by kernel_rfl) (by kernel_rfl) (fun _ _ _ h => h) (Or.inl ⟨by rfl, ?_⟩) hHeld ?_
        rotate_left
        · intro w_ hSw; (try dsimp only at hSw); obtain ⟨s1_, s2_⟩ := hSw; (try obtain ⟨s1_, s3_⟩ := s1_); go_simp; try (with_reducible rfl)
        try simp only [Act.put, List.setIfInBounds_toArray, List.set_cons_zero, List.set_cons_succ]
        refine wpAnyH_take (i := 31) (oi := ({ dst := (some 42), op := (Op.fieldAddr 66 (Operand.tmp 41) 0), type := 0, pos := "ref.go:40", after := #[{ on := 30, ground := Ground.data }, { on := 26, ground := Ground.guard }], guard := (some (26, true)) } : Oper)) (v := ?_) rfl (by kernel_rfl) (by kernel_rfl) (by kernel_rfl) (fun _ _ _ h => h) (Or.inl ⟨by rfl, ?_⟩) hHeld ?_
        rotate_left
        · intro w_ hSw; (try dsimp only at hSw); obtain ⟨s1_, s2_⟩ := hSw; (try obtain ⟨s1_, s3_⟩ := s1_); go_simp; try (with_reducible rfl)
        try simp only [Act.put, List.setIfInBounds_toArray, List.set_cons_zero, List.set_cons_succ]
        refine wpAnyH_take (i := 32) (oi := ({ dst := (some 43), op := (Op.load 9 (Operand.tmp 42)), type := 9, pos := "ref.go:40", after := #[{ on := 31, ground := Ground.data }, { on := 26, ground := Ground.guard }], guard := (some (26, true)) } : Oper)) (v := ?_) rfl (by kernel_rfl) (by kernel_rfl) (by kernel_rfl) (fun _ _ _ h => h) (Or.inl ⟨by rfl, ?_⟩) hHeld ?_
        rotate_left
        · intro w_ hSw; (try dsimp only at hSw); obtain ⟨s1_, s2_⟩ := hSw; (try obtain ⟨s1_, s3_⟩ := s1_); go_simp; try (with_reducible rfl)
        try simp only [Act.put, List.setIfInBounds_toArray, List.set_cons_zero, List.set_cons_succ]
        refine wpAnyH_take (i := 33) (oi := ({ dst := (some 44), op := (Op.move (Operand.tmp 0)), type := 25, pos := "ref.go:40", after := #[{ on := 26, ground := Ground.guard }], guard := (some (26, true)) } : Oper)) (v := ?_) rfl (by kernel_rfl) (by kernel_rfl) (by kernel_rfl) (fun _ _ _ h => h) (Or.inl ⟨by rfl, ?_⟩) hHeld ?_
        rotate_left
        · intro w_ hSw; (try dsimp only at hSw); obtain ⟨s1_, s2_⟩ := hSw; (try obtain ⟨s1_, s3_⟩ := s1_); go_simp; try (with_reducible rfl)
        try simp only [Act.put, List.setIfInBounds_toArray, List.set_cons_zero, List.set_cons_succ]
        refine wpAnyH_take (i := 34) (oi := ({ dst := (some 45), op := (Op.move (Operand.tmp 4)), type := 3, pos := "ref.go:40", after := #[{ on := 26, ground := Ground.guard }], guard := (some (26, true)) } : Oper)) (v := ?_) rfl (by kernel_rfl) (by kernel_rfl) (by kernel_rfl) (fun _ _ _ h => h) (Or.inl ⟨by rfl, ?_⟩) hHeld ?_
        rotate_left
        · intro w_ hSw; (try dsimp only at hSw); obtain ⟨s1_, s2_⟩ := hSw; (try obtain ⟨s1_, s3_⟩ := s1_); go_simp; try (with_reducible rfl)
        try simp only [Act.put, List.setIfInBounds_toArray, List.set_cons_zero, List.set_cons_succ]
        refine wpAnyH_take (i := 35) (oi := ({ dst := (some 46), op := (Op.indexAddr 25 (Operand.tmp 44) (Operand.tmp 45)), type := 0, pos := "ref.go:40", after := #[{ on := 33, ground := Ground.data }, { on := 34, ground := Ground.data }, { on := 26, ground := Ground.guard }], guard := (some (26, true)) } : Oper)) (v := ?_) rfl (by kernel_rfl) (by kernel_rfl) (by kernel_rfl) (fun _ _ _ h => h) (Or.inl ⟨by rfl, ?_⟩) hHeld ?_
        rotate_left
        · intro w_ hSw; (try dsimp only at hSw); obtain ⟨s1_, s2_⟩ := hSw; (try obtain ⟨s1_, s3_⟩ := s1_); go_simp; try (with_reducible rfl)
        try simp only [Act.put, List.setIfInBounds_toArray, List.set_cons_zero, List.set_cons_succ]
        refine wpAnyH_take (i := 36) (oi := ({ dst := (some 47), op := (Op.fieldAddr 66 (Operand.tmp 46) 0), type := 0, pos := "ref.go:40", after := #[{ on := 35, ground := Ground.data }, { on := 26, ground := Ground.guard }], guard := (some (26, true)) } : Oper)) (v := ?_) rfl (by kernel_rfl) (by kernel_rfl) (by kernel_rfl) (fun _ _ _ h => h) (Or.inl ⟨by rfl, ?_⟩) hHeld ?_
        rotate_left
        · intro w_ hSw; (try dsimp only at hSw); obtain ⟨s1_, s2_⟩ := hSw; (try obtain ⟨s1_, s3_⟩ := s1_); go_simp; try (with_reducible rfl)
        try simp only [Act.put, List.setIfInBounds_toArray, List.set_cons_zero, List.set_cons_succ]
        refine wpAnyH_take (i := 37) (oi := ({ dst := (some 48), op := (Op.load 9 (Operand.tmp 47)), type := 9, pos := "ref.go:40", after := #[{ on := 36, ground := Ground.data }, { on := 26, ground := Ground.guard }], guard := (some (26, true)) } : Oper)) (v := ?_) rfl (by kernel_rfl) (by kernel_rfl) (by kernel_rfl) (fun _ _ _ h => h) (Or.inl ⟨by rfl, ?_⟩) hHeld ?_
        rotate_left
        · intro w_ hSw; (try dsimp only at hSw); obtain ⟨s1_, s2_⟩ := hSw; (try obtain ⟨s1_, s3_⟩ := s1_); go_simp; try (with_reducible rfl)
        try simp only [Act.put, List.setIfInBounds_toArray, List.set_cons_zero, List.set_cons_succ]
        refine wpAnyH_take (i := 38) (oi := ({ dst := (some 49), op := (Op.binOp BinOp.geq 9 (Operand.tmp 43) (Operand.tmp 48) 9), type := 4, pos := "ref.go:40", after := #[{ on := 32, ground := Ground.data }, { on := 37, ground := Ground.data }, { on := 26, ground := Ground.guard }], guard := (some (26, true)) } : Oper)) (v := ?_) rfl (by kernel_rfl) (by kernel_rfl) (by kernel_rfl) (fun _ _ _ h => h) (Or.inl ⟨by rfl, ?_⟩) hHeld ?_
        rotate_left
        · intro w_ hSw; (try dsimp only at hSw); obtain ⟨s1_, s2_⟩ := hSw; (try obtain ⟨s1_, s3_⟩ := s1_); go_simp; try (with_reducible rfl)
        try simp only [Act.put, List.setIfInBounds_toArray, List.set_cons_zero, List.set_cons_succ]
        refine wpAnyH_take (i := 39) (oi := ({ dst := (some 50), op := (Op.pick (Operand.tmp 37) (Operand.tmp 49) (Operand.const (Value.bool false))), type := 4, pos := "ref.go:40", after := #[{ on := 26, ground := Ground.data }, { on := 38, ground := Ground.data }, { on := 23, ground := Ground.guard }], guard := (some (23, false)) } : Oper)) (v := ?_) rfl (by kernel_rfl) (by kernel_rfl) (by kernel_rfl) (fun _ _ _ h => h) (Or.inl ⟨by rfl, ?_⟩) hHeld ?_
        rotate_left
        · intro w_ hSw; (try dsimp only at hSw); obtain ⟨s1_, s2_⟩ := hSw; (try obtain ⟨s1_, s3_⟩ := s1_); go_simp; try (with_reducible rfl)
        try simp only [Act.put, List.setIfInBounds_toArray, List.set_cons_zero, List.set_cons_succ]
        refine wpAnyH_take (i := 40) (oi := ({ dst := (some 51), op := (Op.pick (Operand.tmp 34) (Operand.const (Value.bool true)) (Operand.tmp 50)), type := 4, pos := "ref.go:40", after := #[{ on := 23, ground := Ground.data }, { on := 39, ground := Ground.data }], guard := none } : Oper)) (v := ?_) rfl (by kernel_rfl) (by kernel_rfl) (by kernel_rfl) (fun _ _ _ h => h) (Or.inl ⟨by rfl, ?_⟩) hHeld ?_
        rotate_left
        · intro w_ hSw; (try dsimp only at hSw); obtain ⟨s1_, s2_⟩ := hSw; (try obtain ⟨s1_, s3_⟩ := s1_); go_simp; try (with_reducible rfl)
        try simp only [Act.put, List.setIfInBounds_toArray, List.set_cons_zero, List.set_cons_succ]
        refine wpAnyH_done (by kernel_rfl) ?_ _
        have hyl := (HYV.out _ HP.out.below).2
        have es : IntKind.i64.wrap (s + y.f2) = s + y.f2 := IntWalk.i64_in _ (by have h1 := HSB.out; have h2 := HL.out; have h3 := HK.out; omega)
        go_wp2_with fail
        go_roundg (gk - 1)
        case measure => have := HK.out; have := (List.getElem?_eq_some_iff.1 HY.out).1; omega
        case rel => exact ⟨j + 1, x + 1, s + y.f2, rfl, rfl, ⟨by have := HX.out; omega⟩, ⟨by have := HK.out; have := (List.getElem?_eq_some_iff.1 HY.out).1; omega⟩, ⟨by rw [linksTo_succ, HG.out, HYD.out, HPD.out]; simp [*]⟩, ⟨by rw [sum_take l j y HY.out, HS.out]⟩, HP⟩
      | false =>
        refine held_named (S := (fun w' => (w'.cell? ⟨Ab, Ao + x.toNat * 34, none⟩ = some (.string y.f0) ∧ w'.cell? ⟨Ab, Ao + x.toNat * 34 + 33, none⟩ = some (.int .i64 y.f2)) ∧ w'.cell? ⟨Ab, Ao + (x.toNat - 1) * 34, none⟩ = some (.string p.f0))) (by kernel_rfl) (fun wd6 hwd6 => ?_)
        have HPn := Aside0.mk (HP.out.drewN 1)
        rw [← World.drew_is_drewN, hwd6] at HPn
        clear HP hwd6
        have HP := HPn
        clear HPn
        refine ⟨by (try dsimp only); exact ⟨HYV.out _ HP.out.below, HPV.out _ HP.out.below⟩, fun hHeld => ?_⟩
        refine wpAnyH_take (i := 0) (oi := ({ dst := (some 11), op := (Op.move (Operand.tmp 0)), type := 25, pos := "ref.go:40", after := #[], guard := none } : Oper)) (v := ?_) rfl (by kernel_rfl) (by kernel_rfl) (by kernel_rfl) (fun _ _ _ h => h) (Or.inl ⟨by rfl, ?_⟩) hHeld ?_
        rotate_left
        · intro w_ hSw; (try dsimp only at hSw); obtain ⟨s1_, s2_⟩ := hSw; (try obtain ⟨s1_, s3_⟩ := s1_); go_simp; try (with_reducible rfl)
        try simp only [Act.put, List.setIfInBounds_toArray, List.set_cons_zero, List.set_cons_succ]
        refine wpAnyH_take (i := 1) (oi := ({ dst := (some 12), op := (Op.move (Operand.tmp 4)), type := 3, pos := "ref.go:40", after := #[], guard := none } : Oper)) (v := ?_) rfl (by kernel_rfl) (by kernel_rfl) (by kernel_rfl) (fun _ _ _ h => h) (Or.inl ⟨by rfl, ?_⟩) hHeld ?_
        rotate_left
        · intro w_ hSw; (try dsimp only at hSw); obtain ⟨s1_, s2_⟩ := hSw; (try obtain ⟨s1_, s3_⟩ := s1_); go_simp; try (with_reducible rfl)
        try simp only [Act.put, List.setIfInBounds_toArray, List.set_cons_zero, List.set_cons_succ]
        refine wpAnyH_take (i := 2) (oi := ({ dst := (some 13), op := (Op.indexAddr 25 (Operand.tmp 11) (Operand.tmp 12)), type := 0, pos := "ref.go:40", after := #[{ on := 0, ground := Ground.data }, { on := 1, ground := Ground.data }], guard := none } : Oper)) (v := ?_) rfl (by kernel_rfl) (by kernel_rfl) (by kernel_rfl) (fun _ _ _ h => h) (Or.inl ⟨by rfl, ?_⟩) hHeld ?_
        rotate_left
        · intro w_ hSw; (try dsimp only at hSw); obtain ⟨s1_, s2_⟩ := hSw; (try obtain ⟨s1_, s3_⟩ := s1_); go_simp; try (with_reducible rfl)
        try simp only [Act.put, List.setIfInBounds_toArray, List.set_cons_zero, List.set_cons_succ]
        refine wpAnyH_take (i := 3) (oi := ({ dst := (some 14), op := (Op.fieldAddr 66 (Operand.tmp 13) 0), type := 0, pos := "ref.go:40", after := #[{ on := 2, ground := Ground.data }], guard := none } : Oper)) (v := ?_) rfl (by kernel_rfl) (by kernel_rfl) (by kernel_rfl) (fun _ _ _ h => h) (Or.inl ⟨by rfl, ?_⟩) hHeld ?_
        rotate_left
        · intro w_ hSw; (try dsimp only at hSw); obtain ⟨s1_, s2_⟩ := hSw; (try obtain ⟨s1_, s3_⟩ := s1_); go_simp; try (with_reducible rfl)
        try simp only [Act.put, List.setIfInBounds_toArray, List.set_cons_zero, List.set_cons_succ]
        refine wpAnyH_take (i := 4) (oi := ({ dst := (some 15), op := (Op.load 9 (Operand.tmp 14)), type := 9, pos := "ref.go:40", after := #[{ on := 3, ground := Ground.data }], guard := none } : Oper)) (v := ?_) rfl (by kernel_rfl) (by kernel_rfl) (by kernel_rfl) (fun _ _ _ h => h) (Or.inl ⟨by rfl, ?_⟩) hHeld ?_
        rotate_left
        · intro w_ hSw; (try dsimp only at hSw); obtain ⟨s1_, s2_⟩ := hSw; (try obtain ⟨s1_, s3_⟩ := s1_); go_simp; try (with_reducible rfl)
        try simp only [Act.put, List.setIfInBounds_toArray, List.set_cons_zero, List.set_cons_succ]
        refine wpAnyH_ready (rs := [5]) (by kernel_rfl) (by simp) ?_
        refine AllReadyH.cons (o := ({ dst := (some 16), op := (Op.call { callee := (Callee.value (Operand.func 87)), args := #[(Operand.tmp 15)], argTypes := #[9] }), type := 4, pos := "ref.go:40", after := #[{ on := 4, ground := Ground.data }], guard := none } : Oper)) rfl (fun K hK => ?_) AllReadyH.nil
        go_simp
        go_at_call 87; refine (c_rkey _ HKS.out _).mono ?_; rintro e w_ ⟨rfl, rfl⟩; (try rw [hkey])
        go_wp2_with fail
        clear hHeld
        refine hK.out _ _ ?_ (fun hHeld => ?_)
        · (try dsimp only); exact ⟨HYV.out _ HP.out.below, HPV.out _ HP.out.below⟩
        clear hK K
        try simp only [Act.put, List.setIfInBounds_toArray, List.set_cons_zero, List.set_cons_succ]
        refine wpAnyH_take (i := 6) (oi := ({ dst := (some 17), op := (Op.unOp UnOp.not 4 (Operand.tmp 16)), type := 4, pos := "ref.go:40", after := #[{ on := 5, ground := Ground.data }], guard := none } : Oper)) (v := ?_) rfl (by kernel_rfl) (by kernel_rfl) (by kernel_rfl) (fun _ _ _ h => h) (Or.inl ⟨by rfl, ?_⟩) hHeld ?_
        rotate_left
        · intro w_ hSw; (try dsimp only at hSw); obtain ⟨s1_, s2_⟩ := hSw; (try obtain ⟨s1_, s3_⟩ := s1_); go_simp; try (with_reducible rfl)
        try simp only [Act.put, List.setIfInBounds_toArray, List.set_cons_zero, List.set_cons_succ]
        refine wpAnyH_take (i := 7) (oi := ({ dst := (some 18), op := (Op.move (Operand.tmp 17)), type := 4, pos := "ref.go:40", after := #[{ on := 6, ground := Ground.data }, { on := 5, ground := Ground.chain }], guard := none } : Oper)) (v := ?_) rfl (by kernel_rfl) (by kernel_rfl) (by kernel_rfl) (fun _ _ _ h => h) (Or.inl ⟨by rfl, ?_⟩) hHeld ?_
        rotate_left
        · intro w_ hSw; (try dsimp only at hSw); obtain ⟨s1_, s2_⟩ := hSw; (try obtain ⟨s1_, s3_⟩ := s1_); go_simp; try (with_reducible rfl)
        try simp only [Act.put, List.setIfInBounds_toArray, List.set_cons_zero, List.set_cons_succ]
        refine wpAnyH_take (i := 8) (oi := ({ dst := (some 19), op := (Op.move (Operand.tmp 0)), type := 25, pos := "ref.go:40", after := #[{ on := 7, ground := Ground.guard }], guard := (some (7, false)) } : Oper)) (v := ?_) rfl (by kernel_rfl) (by kernel_rfl) (by kernel_rfl) (fun _ _ _ h => h) (Or.inl ⟨by rfl, ?_⟩) hHeld ?_
        rotate_left
        · intro w_ hSw; (try dsimp only at hSw); obtain ⟨s1_, s2_⟩ := hSw; (try obtain ⟨s1_, s3_⟩ := s1_); go_simp; try (with_reducible rfl)
        try simp only [Act.put, List.setIfInBounds_toArray, List.set_cons_zero, List.set_cons_succ]
        refine wpAnyH_take (i := 9) (oi := ({ dst := (some 20), op := (Op.move (Operand.tmp 4)), type := 3, pos := "ref.go:40", after := #[{ on := 7, ground := Ground.guard }], guard := (some (7, false)) } : Oper)) (v := ?_) rfl (by kernel_rfl) (by kernel_rfl) (by kernel_rfl) (fun _ _ _ h => h) (Or.inl ⟨by rfl, ?_⟩) hHeld ?_
        rotate_left
        · intro w_ hSw; (try dsimp only at hSw); obtain ⟨s1_, s2_⟩ := hSw; (try obtain ⟨s1_, s3_⟩ := s1_); go_simp; try (with_reducible rfl)
        try simp only [Act.put, List.setIfInBounds_toArray, List.set_cons_zero, List.set_cons_succ]
        refine wpAnyH_take (i := 10) (oi := ({ dst := (some 21), op := (Op.indexAddr 25 (Operand.tmp 19) (Operand.tmp 20)), type := 0, pos := "ref.go:40", after := #[{ on := 8, ground := Ground.data }, { on := 9, ground := Ground.data }, { on := 7, ground := Ground.guard }], guard := (some (7, false)) } : Oper)) (v := ?_) rfl (by kernel_rfl) (by kernel_rfl) (by kernel_rfl) (fun _ _ _ h => h) (Or.inl ⟨by rfl, ?_⟩) hHeld ?_
        rotate_left
        · intro w_ hSw; (try dsimp only at hSw); obtain ⟨s1_, s2_⟩ := hSw; (try obtain ⟨s1_, s3_⟩ := s1_); go_simp; try (with_reducible rfl)
        try simp only [Act.put, List.setIfInBounds_toArray, List.set_cons_zero, List.set_cons_succ]
        refine wpAnyH_take (i := 11) (oi := ({ dst := (some 22), op := (Op.fieldAddr 66 (Operand.tmp 21) 2), type := 0, pos := "ref.go:40", after := #[{ on := 10, ground := Ground.data }, { on := 7, ground := Ground.guard }], guard := (some (7, false)) } : Oper)) (v := ?_) rfl (by kernel_rfl) (by kernel_rfl) (by kernel_rfl) (fun _ _ _ h => h) (Or.inl ⟨by rfl, ?_⟩) hHeld ?_
        rotate_left
        · intro w_ hSw; (try dsimp only at hSw); obtain ⟨s1_, s2_⟩ := hSw; (try obtain ⟨s1_, s3_⟩ := s1_); go_simp; try (with_reducible rfl)
        try simp only [Act.put, List.setIfInBounds_toArray, List.set_cons_zero, List.set_cons_succ]
        refine wpAnyH_take (i := 12) (oi := ({ dst := (some 23), op := (Op.load 3 (Operand.tmp 22)), type := 3, pos := "ref.go:40", after := #[{ on := 11, ground := Ground.data }, { on := 7, ground := Ground.guard }], guard := (some (7, false)) } : Oper)) (v := ?_) rfl (by kernel_rfl) (by kernel_rfl) (by kernel_rfl) (fun _ _ _ h => h) (Or.inl ⟨by rfl, ?_⟩) hHeld ?_
        rotate_left
        · intro w_ hSw; (try dsimp only at hSw); obtain ⟨s1_, s2_⟩ := hSw; (try obtain ⟨s1_, s3_⟩ := s1_); go_simp; try (with_reducible rfl)
        try simp only [Act.put, List.setIfInBounds_toArray, List.set_cons_zero, List.set_cons_succ]
        refine wpAnyH_take (i := 13) (oi := ({ dst := (some 24), op := (Op.binOp BinOp.lss 3 (Operand.tmp 23) (Operand.const (Value.int IntKind.i64 1)) 3), type := 4, pos := "ref.go:40", after := #[{ on := 12, ground := Ground.data }, { on := 7, ground := Ground.guard }], guard := (some (7, false)) } : Oper)) (v := ?_) rfl (by kernel_rfl) (by kernel_rfl) (by kernel_rfl) (fun _ _ _ h => h) (Or.inl ⟨by rfl, ?_⟩) hHeld ?_
        rotate_left
        · intro w_ hSw; (try dsimp only at hSw); obtain ⟨s1_, s2_⟩ := hSw; (try obtain ⟨s1_, s3_⟩ := s1_); go_simp; try (with_reducible rfl)
        try simp only [Act.put, List.setIfInBounds_toArray, List.set_cons_zero, List.set_cons_succ]
        refine wpAnyH_take (i := 14) (oi := ({ dst := (some 25), op := (Op.pick (Operand.tmp 18) (Operand.const (Value.bool true)) (Operand.tmp 24)), type := 4, pos := "ref.go:40", after := #[{ on := 7, ground := Ground.data }, { on := 13, ground := Ground.data }], guard := none } : Oper)) (v := ?_) rfl (by kernel_rfl) (by kernel_rfl) (by kernel_rfl) (fun _ _ _ h => h) (Or.inl ⟨by rfl, ?_⟩) hHeld ?_
        rotate_left
        · intro w_ hSw; (try dsimp only at hSw); obtain ⟨s1_, s2_⟩ := hSw; (try obtain ⟨s1_, s3_⟩ := s1_); go_simp; try (with_reducible rfl)
        try simp only [Act.put, List.setIfInBounds_toArray, List.set_cons_zero, List.set_cons_succ]
        refine wpAnyH_take (i := 15) (oi := ({ dst := (some 26), op := (Op.move (Operand.tmp 25)), type := 4, pos := "ref.go:40", after := #[{ on := 14, ground := Ground.data }, { on := 7, ground := Ground.chain }], guard := none } : Oper)) (v := ?_) rfl (by kernel_rfl) (by kernel_rfl) (by kernel_rfl) (fun _ _ _ h => h) (Or.inl ⟨by rfl, ?_⟩) hHeld ?_
        rotate_left
        · intro w_ hSw; (try dsimp only at hSw); obtain ⟨s1_, s2_⟩ := hSw; (try obtain ⟨s1_, s3_⟩ := s1_); go_simp; try (with_reducible rfl)
        try simp only [Act.put, List.setIfInBounds_toArray, List.set_cons_zero, List.set_cons_succ]
        refine wpAnyH_take (i := 16) (oi := ({ dst := (some 27), op := (Op.move (Operand.tmp 0)), type := 25, pos := "ref.go:40", after := #[{ on := 15, ground := Ground.guard }], guard := (some (15, false)) } : Oper)) (v := ?_) rfl (by kernel_rfl) (by kernel_rfl) (by kernel_rfl) (fun _ _ _ h => h) (Or.inl ⟨by rfl, ?_⟩) hHeld ?_
        rotate_left
        · intro w_ hSw; (try dsimp only at hSw); obtain ⟨s1_, s2_⟩ := hSw; (try obtain ⟨s1_, s3_⟩ := s1_); go_simp; try (with_reducible rfl)
        try simp only [Act.put, List.setIfInBounds_toArray, List.set_cons_zero, List.set_cons_succ]
        refine wpAnyH_take (i := 17) (oi := ({ dst := (some 28), op := (Op.move (Operand.tmp 4)), type := 3, pos := "ref.go:40", after := #[{ on := 15, ground := Ground.guard }], guard := (some (15, false)) } : Oper)) (v := ?_) rfl (by kernel_rfl) (by kernel_rfl) (by kernel_rfl) (fun _ _ _ h => h) (Or.inl ⟨by rfl, ?_⟩) hHeld ?_
        rotate_left
        · intro w_ hSw; (try dsimp only at hSw); obtain ⟨s1_, s2_⟩ := hSw; (try obtain ⟨s1_, s3_⟩ := s1_); go_simp; try (with_reducible rfl)
        try simp only [Act.put, List.setIfInBounds_toArray, List.set_cons_zero, List.set_cons_succ]
        refine wpAnyH_take (i := 18) (oi := ({ dst := (some 29), op := (Op.indexAddr 25 (Operand.tmp 27) (Operand.tmp 28)), type := 0, pos := "ref.go:40", after := #[{ on := 16, ground := Ground.data }, { on := 17, ground := Ground.data }, { on := 15, ground := Ground.guard }], guard := (some (15, false)) } : Oper)) (v := ?_) rfl (by kernel_rfl) (by kernel_rfl) (by kernel_rfl) (fun _ _ _ h => h) (Or.inl ⟨by rfl, ?_⟩) hHeld ?_
        rotate_left
        · intro w_ hSw; (try dsimp only at hSw); obtain ⟨s1_, s2_⟩ := hSw; (try obtain ⟨s1_, s3_⟩ := s1_); go_simp; try (with_reducible rfl)
        try simp only [Act.put, List.setIfInBounds_toArray, List.set_cons_zero, List.set_cons_succ]
        refine wpAnyH_take (i := 19) (oi := ({ dst := (some 30), op := (Op.fieldAddr 66 (Operand.tmp 29) 2), type := 0, pos := "ref.go:40", after := #[{ on := 18, ground := Ground.data }, { on := 15, ground := Ground.guard }], guard := (some (15, false)) } : Oper)) (v := ?_) rfl (by kernel_rfl) (by kernel_rfl) (by kernel_rfl) (fun _ _ _ h => h) (Or.inl ⟨by rfl, ?_⟩) hHeld ?_
        rotate_left
        · intro w_ hSw; (try dsimp only at hSw); obtain ⟨s1_, s2_⟩ := hSw; (try obtain ⟨s1_, s3_⟩ := s1_); go_simp; try (with_reducible rfl)
        try simp only [Act.put, List.setIfInBounds_toArray, List.set_cons_zero, List.set_cons_succ]
        refine wpAnyH_take (i := 20) (oi := ({ dst := (some 31), op := (Op.load 3 (Operand.tmp 30)), type := 3, pos := "ref.go:40", after := #[{ on := 19, ground := Ground.data }, { on := 15, ground := Ground.guard }], guard := (some (15, false)) } : Oper)) (v := ?_) rfl (by kernel_rfl) (by kernel_rfl) (by kernel_rfl) (fun _ _ _ h => h) (Or.inl ⟨by rfl, ?_⟩) hHeld ?_
        rotate_left
        · intro w_ hSw; (try dsimp only at hSw); obtain ⟨s1_, s2_⟩ := hSw; (try obtain ⟨s1_, s3_⟩ := s1_); go_simp; try (with_reducible rfl)
        try simp only [Act.put, List.setIfInBounds_toArray, List.set_cons_zero, List.set_cons_succ]
        refine wpAnyH_take (i := 21) (oi := ({ dst := (some 32), op := (Op.binOp BinOp.gtr 3 (Operand.tmp 31) (Operand.const (Value.int IntKind.i64 65536)) 3), type := 4, pos := "ref.go:40", after := #[{ on := 20, ground := Ground.data }, { on := 15, ground := Ground.guard }], guard := (some (15, false)) } : Oper)) (v := ?_) rfl (by kernel_rfl) (by kernel_rfl) (by kernel_rfl) (fun _ _ _ h => h) (Or.inl ⟨by rfl, ?_⟩) hHeld ?_
        rotate_left
        · intro w_ hSw; (try dsimp only at hSw); obtain ⟨s1_, s2_⟩ := hSw; (try obtain ⟨s1_, s3_⟩ := s1_); go_simp; try (with_reducible rfl)
        try simp only [Act.put, List.setIfInBounds_toArray, List.set_cons_zero, List.set_cons_succ]
        refine wpAnyH_take (i := 22) (oi := ({ dst := (some 33), op := (Op.pick (Operand.tmp 26) (Operand.const (Value.bool true)) (Operand.tmp 32)), type := 4, pos := "ref.go:40", after := #[{ on := 15, ground := Ground.data }, { on := 21, ground := Ground.data }], guard := none } : Oper)) (v := ?_) rfl (by kernel_rfl) (by kernel_rfl) (by kernel_rfl) (fun _ _ _ h => h) (Or.inl ⟨by rfl, ?_⟩) hHeld ?_
        rotate_left
        · intro w_ hSw; (try dsimp only at hSw); obtain ⟨s1_, s2_⟩ := hSw; (try obtain ⟨s1_, s3_⟩ := s1_); go_simp; try (with_reducible rfl)
        try simp only [Act.put, List.setIfInBounds_toArray, List.set_cons_zero, List.set_cons_succ]
        refine wpAnyH_take (i := 23) (oi := ({ dst := (some 34), op := (Op.move (Operand.tmp 33)), type := 4, pos := "ref.go:40", after := #[{ on := 22, ground := Ground.data }, { on := 15, ground := Ground.chain }], guard := none } : Oper)) (v := ?_) rfl (by kernel_rfl) (by kernel_rfl) (by kernel_rfl) (fun _ _ _ h => h) (Or.inl ⟨by rfl, ?_⟩) hHeld ?_
        rotate_left
        · intro w_ hSw; (try dsimp only at hSw); obtain ⟨s1_, s2_⟩ := hSw; (try obtain ⟨s1_, s3_⟩ := s1_); go_simp; try (with_reducible rfl)
        try simp only [Act.put, List.setIfInBounds_toArray, List.set_cons_zero, List.set_cons_succ]
        refine wpAnyH_take (i := 24) (oi := ({ dst := (some 35), op := (Op.move (Operand.tmp 4)), type := 3, pos := "ref.go:40", after := #[{ on := 23, ground := Ground.guard }], guard := (some (23, false)) } : Oper)) (v := ?_) rfl (by kernel_rfl) (by kernel_rfl) (by kernel_rfl) (fun _ _ _ h => h) (Or.inl ⟨by rfl, ?_⟩) hHeld ?_
        rotate_left
        · intro w_ hSw; (try dsimp only at hSw); obtain ⟨s1_, s2_⟩ := hSw; (try obtain ⟨s1_, s3_⟩ := s1_); go_simp; try (with_reducible rfl)
        try simp only [Act.put, List.setIfInBounds_toArray, List.set_cons_zero, List.set_cons_succ]
        refine wpAnyH_take (i := 25) (oi := ({ dst := (some 36), op := (Op.binOp BinOp.gtr 3 (Operand.tmp 35) (Operand.const (Value.int IntKind.i64 0)) 3), type := 4, pos := "ref.go:40", after := #[{ on := 24, ground := Ground.data }, { on := 23, ground := Ground.guard }], guard := (some (23, false)) } : Oper)) (v := ?_) rfl (by kernel_rfl) (by kernel_rfl) (by kernel_rfl) (fun _ _ _ h => h) (Or.inl ⟨by rfl, ?_⟩) hHeld ?_
        rotate_left
        · intro w_ hSw; (try dsimp only at hSw); obtain ⟨s1_, s2_⟩ := hSw; (try obtain ⟨s1_, s3_⟩ := s1_); go_simp; try (with_reducible rfl)
        try simp only [Act.put, List.setIfInBounds_toArray, List.set_cons_zero, List.set_cons_succ]
        refine wpAnyH_take (i := 26) (oi := ({ dst := (some 37), op := (Op.move (Operand.tmp 36)), type := 4, pos := "ref.go:40", after := #[{ on := 25, ground := Ground.data }, { on := 23, ground := Ground.chain }, { on := 23, ground := Ground.guard }], guard := (some (23, false)) } : Oper)) (v := ?_) rfl (by kernel_rfl) (by kernel_rfl) (by kernel_rfl) (fun _ _ _ h => h) (Or.inl ⟨by rfl, ?_⟩) hHeld ?_
        rotate_left
        · intro w_ hSw; (try dsimp only at hSw); obtain ⟨s1_, s2_⟩ := hSw; (try obtain ⟨s1_, s3_⟩ := s1_); go_simp; try (with_reducible rfl)
        try simp only [Act.put, List.setIfInBounds_toArray, List.set_cons_zero, List.set_cons_succ]
        refine wpAnyH_take (i := 27) (oi := ({ dst := (some 38), op := (Op.move (Operand.tmp 0)), type := 25, pos := "ref.go:40", after := #[{ on := 26, ground := Ground.guard }], guard := (some (26, true)) } : Oper)) (v := ?_) rfl (by kernel_rfl) (by kernel_rfl) (by kernel_rfl) (fun _ _ _ h => h) (Or.inl ⟨by rfl, ?_⟩) hHeld ?_
        rotate_left
        · intro w_ hSw; (try dsimp only at hSw); obtain ⟨s1_, s2_⟩ := hSw; (try obtain ⟨s1_, s3_⟩ := s1_); go_simp; try (with_reducible rfl)
        try simp only [Act.put, List.setIfInBounds_toArray, List.set_cons_zero, List.set_cons_succ]
        refine wpAnyH_take (i := 28) (oi := ({ dst := (some 39), op := (Op.move (Operand.tmp 4)), type := 3, pos := "ref.go:40", after := #[{ on := 26, ground := Ground.guard }], guard := (some (26, true)) } : Oper)) (v := ?_) rfl (by kernel_rfl) (by kernel_rfl) (by kernel_rfl) (fun _ _ _ h => h) (Or.inl ⟨by rfl, ?_⟩) hHeld ?_
        rotate_left
        · intro w_ hSw; (try dsimp only at hSw); obtain ⟨s1_, s2_⟩ := hSw; (try obtain ⟨s1_, s3_⟩ := s1_); go_simp; try (with_reducible rfl)
        try simp only [Act.put, List.setIfInBounds_toArray, List.set_cons_zero, List.set_cons_succ]
        refine wpAnyH_take (i := 29) (oi := ({ dst := (some 40), op := (Op.binOp BinOp.sub 3 (Operand.tmp 39) (Operand.const (Value.int IntKind.i64 1)) 3), type := 3, pos := "ref.go:40", after := #[{ on := 28, ground := Ground.data }, { on := 26, ground := Ground.guard }], guard := (some (26, true)) } : Oper)) (v := ?_) rfl (by kernel_rfl) (by kernel_rfl) (by kernel_rfl) (fun _ _ _ h => h) (Or.inl ⟨by rfl, ?_⟩) hHeld ?_
        rotate_left
        · intro w_ hSw; (try dsimp only at hSw); obtain ⟨s1_, s2_⟩ := hSw; (try obtain ⟨s1_, s3_⟩ := s1_); go_simp; try (with_reducible rfl)
        try simp only [Act.put, List.setIfInBounds_toArray, List.set_cons_zero, List.set_cons_succ]
        refine wpAnyH_take (i := 30) (oi := ({ dst := (some 41), op := (Op.indexAddr 25 (Operand.tmp 38) (Operand.tmp 40)), type := 0, pos := "ref.go:40", after := #[{ on := 27, ground := Ground.data }, { on := 29, ground := Ground.data }, { on := 26, ground := Ground.guard }], guard := (some (26, true)) } : Oper)) (v := ?_) rfl (by kernel_rfl) (by kernel_rfl) (by kernel_rfl) (fun _ _ _ h => h) (Or.inl ⟨by rfl, ?_⟩) hHeld ?_
        rotate_left
        · intro w_ hSw; (try dsimp only at hSw); obtain ⟨s1_, s2_⟩ := hSw; (try obtain ⟨s1_, s3_⟩ := s1_); go_simp; try (with_reducible rfl)
        try simp only [Act.put, List.setIfInBounds_toArray, List.set_cons_zero, List.set_cons_succ]
        refine wpAnyH_take (i := 31) (oi := ({ dst := (some 42), op := (Op.fieldAddr 66 (Operand.tmp 41) 0), type := 0, pos := "ref.go:40", after := #[{ on := 30, ground := Ground.data }, { on := 26, ground := Ground.guard }], guard := (some (26, true)) } : Oper)) (v := ?_) rfl (by kernel_rfl) (by kernel_rfl) (by kernel_rfl) (fun _ _ _ h => h) (Or.inl ⟨by rfl, ?_⟩) hHeld ?_
        rotate_left
        · intro w_ hSw; (try dsimp only at hSw); obtain ⟨s1_, s2_⟩ := hSw; (try obtain ⟨s1_, s3_⟩ := s1_); go_simp; try (with_reducible rfl)
        try simp only [Act.put, List.setIfInBounds_toArray, List.set_cons_zero, List.set_cons_succ]
        refine wpAnyH_take (i := 32) (oi := ({ dst := (some 43), op := (Op.load 9 (Operand.tmp 42)), type := 9, pos := "ref.go:40", after := #[{ on := 31, ground := Ground.data }, { on := 26, ground := Ground.guard }], guard := (some (26, true)) } : Oper)) (v := ?_) rfl (by kernel_rfl) (by kernel_rfl) (by kernel_rfl) (fun _ _ _ h => h) (Or.inl ⟨by rfl, ?_⟩) hHeld ?_
        rotate_left
        · intro w_ hSw; (try dsimp only at hSw); obtain ⟨s1_, s2_⟩ := hSw; (try obtain ⟨s1_, s3_⟩ := s1_); go_simp; try (with_reducible rfl)
        try simp only [Act.put, List.setIfInBounds_toArray, List.set_cons_zero, List.set_cons_succ]
        refine wpAnyH_take (i := 33) (oi := ({ dst := (some 44), op := (Op.move (Operand.tmp 0)), type := 25, pos := "ref.go:40", after := #[{ on := 26, ground := Ground.guard }], guard := (some (26, true)) } : Oper)) (v := ?_) rfl (by kernel_rfl) (by kernel_rfl) (by kernel_rfl) (fun _ _ _ h => h) (Or.inl ⟨by rfl, ?_⟩) hHeld ?_
        rotate_left
        · intro w_ hSw; (try dsimp only at hSw); obtain ⟨s1_, s2_⟩ := hSw; (try obtain ⟨s1_, s3_⟩ := s1_); go_simp; try (with_reducible rfl)
        try simp only [Act.put, List.setIfInBounds_toArray, List.set_cons_zero, List.set_cons_succ]
        refine wpAnyH_take (i := 34) (oi := ({ dst := (some 45), op := (Op.move (Operand.tmp 4)), type := 3, pos := "ref.go:40", after := #[{ on := 26, ground := Ground.guard }], guard := (some (26, true)) } : Oper)) (v := ?_) rfl (by kernel_rfl) (by kernel_rfl) (by kernel_rfl) (fun _ _ _ h => h) (Or.inl ⟨by rfl, ?_⟩) hHeld ?_
        rotate_left
        · intro w_ hSw; (try dsimp only at hSw); obtain ⟨s1_, s2_⟩ := hSw; (try obtain ⟨s1_, s3_⟩ := s1_); go_simp; try (with_reducible rfl)
        try simp only [Act.put, List.setIfInBounds_toArray, List.set_cons_zero, List.set_cons_succ]
        refine wpAnyH_take (i := 35) (oi := ({ dst := (some 46), op := (Op.indexAddr 25 (Operand.tmp 44) (Operand.tmp 45)), type := 0, pos := "ref.go:40", after := #[{ on := 33, ground := Ground.data }, { on := 34, ground := Ground.data }, { on := 26, ground := Ground.guard }], guard := (some (26, true)) } : Oper)) (v := ?_) rfl (by kernel_rfl) (by kernel_rfl) (by kernel_rfl) (fun _ _ _ h => h) (Or.inl ⟨by rfl, ?_⟩) hHeld ?_
        rotate_left
        · intro w_ hSw; (try dsimp only at hSw); obtain ⟨s1_, s2_⟩ := hSw; (try obtain ⟨s1_, s3_⟩ := s1_); go_simp; try (with_reducible rfl)
        try simp only [Act.put, List.setIfInBounds_toArray, List.set_cons_zero, List.set_cons_succ]
        refine wpAnyH_take (i := 36) (oi := ({ dst := (some 47), op := (Op.fieldAddr 66 (Operand.tmp 46) 0), type := 0, pos := "ref.go:40", after := #[{ on := 35, ground := Ground.data }, { on := 26, ground := Ground.guard }], guard := (some (26, true)) } : Oper)) (v := ?_) rfl (by kernel_rfl) (by kernel_rfl) (by kernel_rfl) (fun _ _ _ h => h) (Or.inl ⟨by rfl, ?_⟩) hHeld ?_
        rotate_left
        · intro w_ hSw; (try dsimp only at hSw); obtain ⟨s1_, s2_⟩ := hSw; (try obtain ⟨s1_, s3_⟩ := s1_); go_simp; try (with_reducible rfl)
        try simp only [Act.put, List.setIfInBounds_toArray, List.set_cons_zero, List.set_cons_succ]
        refine wpAnyH_take (i := 37) (oi := ({ dst := (some 48), op := (Op.load 9 (Operand.tmp 47)), type := 9, pos := "ref.go:40", after := #[{ on := 36, ground := Ground.data }, { on := 26, ground := Ground.guard }], guard := (some (26, true)) } : Oper)) (v := ?_) rfl (by kernel_rfl) (by kernel_rfl) (by kernel_rfl) (fun _ _ _ h => h) (Or.inl ⟨by rfl, ?_⟩) hHeld ?_
        rotate_left
        · intro w_ hSw; (try dsimp only at hSw); obtain ⟨s1_, s2_⟩ := hSw; (try obtain ⟨s1_, s3_⟩ := s1_); go_simp; try (with_reducible rfl)
        try simp only [Act.put, List.setIfInBounds_toArray, List.set_cons_zero, List.set_cons_succ]
        refine wpAnyH_take (i := 38) (oi := ({ dst := (some 49), op := (Op.binOp BinOp.geq 9 (Operand.tmp 43) (Operand.tmp 48) 9), type := 4, pos := "ref.go:40", after := #[{ on := 32, ground := Ground.data }, { on := 37, ground := Ground.data }, { on := 26, ground := Ground.guard }], guard := (some (26, true)) } : Oper)) (v := ?_) rfl (by kernel_rfl) (by kernel_rfl) (by kernel_rfl) (fun _ _ _ h => h) (Or.inl ⟨by rfl, ?_⟩) hHeld ?_
        rotate_left
        · intro w_ hSw; (try dsimp only at hSw); obtain ⟨s1_, s2_⟩ := hSw; (try obtain ⟨s1_, s3_⟩ := s1_); go_simp; try (with_reducible rfl)
        try simp only [Act.put, List.setIfInBounds_toArray, List.set_cons_zero, List.set_cons_succ]
        refine wpAnyH_take (i := 39) (oi := ({ dst := (some 50), op := (Op.pick (Operand.tmp 37) (Operand.tmp 49) (Operand.const (Value.bool false))), type := 4, pos := "ref.go:40", after := #[{ on := 26, ground := Ground.data }, { on := 38, ground := Ground.data }, { on := 23, ground := Ground.guard }], guard := (some (23, false)) } : Oper)) (v := ?_) rfl (by kernel_rfl) (by kernel_rfl) (by kernel_rfl) (fun _ _ _ h => h) (Or.inl ⟨by rfl, ?_⟩) hHeld ?_
        rotate_left
        · intro w_ hSw; (try dsimp only at hSw); obtain ⟨s1_, s2_⟩ := hSw; (try obtain ⟨s1_, s3_⟩ := s1_); go_simp; try (with_reducible rfl)
        try simp only [Act.put, List.setIfInBounds_toArray, List.set_cons_zero, List.set_cons_succ]
        refine wpAnyH_take (i := 40) (oi := ({ dst := (some 51), op := (Op.pick (Operand.tmp 34) (Operand.const (Value.bool true)) (Operand.tmp 50)), type := 4, pos := "ref.go:40", after := #[{ on := 23, ground := Ground.data }, { on := 39, ground := Ground.data }], guard := none } : Oper)) (v := ?_) rfl (by kernel_rfl) (by kernel_rfl) (by kernel_rfl) (fun _ _ _ h => h) (Or.inl ⟨by rfl, ?_⟩) hHeld ?_
        rotate_left
        · intro w_ hSw; (try dsimp only at hSw); obtain ⟨s1_, s2_⟩ := hSw; (try obtain ⟨s1_, s3_⟩ := s1_); go_simp; try (with_reducible rfl)
        try simp only [Act.put, List.setIfInBounds_toArray, List.set_cons_zero, List.set_cons_succ]
        refine wpAnyH_done (by kernel_rfl) ?_ _
        go_wp2_with fail
        go_ret
        exact ⟨by rw [HBAD.out (by rw [HPD.out] <;> (simp [*] <;> omega))]; rfl, HP.out.below⟩
  · have d1 : decide (x < (l.length : Int)) = false := decide_eq_false (by omega)
    have HE := Aside0.mk (show linksTo l l.length = true from by rw [show l.length = j by have := HK.out; omega, HG.out])
    have HES := Aside0.mk (show sumN l = s from by rw [HS.out, List.take_of_length_le (by omega)])
    clear hx c1
    by_cases c3 : 0 < l.length
    · have d3 : decide ((0 : Int) < (l.length : Int)) = true := decide_eq_true (by omega)
      have d4 : decide (0 < l.length) = true := decide_eq_true c3
      go_wp2_with fail
      go_ret
      exact ⟨by unfold linksS; rw [HE.out, d4, HES.out]; rfl, HP.out.below⟩
    · have d3 : decide ((0 : Int) < (l.length : Int)) = false := decide_eq_false (by omega)
      have d4 : decide (0 < l.length) = false := decide_eq_false c3
      go_wp2_with fail
      go_ret
      exact ⟨by unfold linksS; rw [HE.out, d4]; rfl, HP.out.below⟩
end Go.Proofs.Ytlgnfbgjdkbfoaa.Pg
