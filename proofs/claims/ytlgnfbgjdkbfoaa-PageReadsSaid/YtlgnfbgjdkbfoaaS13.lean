import Derived.Test.YtlgnfbgjdkbfoaaS11
namespace Go.Proofs.Ytlgnfbgjdkbfoaa.Pg
open Go.RowKit Go.Proofs.Ytlgnfbgjdkbfoaa.XH Go.Proofs.Ytlgnfbgjdkbfoaa.Wd Go.Proofs.YtlgnfbgjdkbfoaaW.PrintWords Go.Proofs.YtlgnfbgjdkbfoaaW.PrintLast Go.Proofs.YtlgnfbgjdkbfoaaW.PrintMore Go.Proofs.YtlgnfbgjdkbfoaaXe Go.Proofs.YtlgnfbgjdkbfoaaXs
set_option linter.unusedVariables false
set_option linter.unusedSimpArgs false
attribute [local go_sem ↓] Go.wp_at_zero Go.wp_at_succ
theorem size_list (k : ByteArray) : k.toList.length = k.size := by
  rw [ByteArray.toList_eq]
  exact Array.length_toList
set_option maxHeartbeats 8000000 in
set_option maxRecDepth 100000 in
theorem c_rkey (k : ByteArray) (hk : k.size ≤ 1000000000000) (w : World) : Calls Try.prog 87 #[.string k] w fun e w' => e = .returned (.bool (keyOk k)) ∧ w' = w := by
  by_cases c2 : 1 ≤ k.size
  · have c2b0 : decide ((1 : Int) ≤ (k.size : Int)) = true := decide_eq_true (by omega)
    have c2b1 : decide (1 ≤ k.size) = true := decide_eq_true c2
    have c2b2 : decide (0 < k.size) = true := decide_eq_true (by omega)
    have hk : keyOk k = decide ((k.size : Int) ≤ 32) := by
      have : k.toList ≠ [] := fun h => by
        have h1 := size_list k
        rw [h] at h1
        simp at h1
        omega
      simp only [keyOk, ne_eq, this, not_false_eq_true, decide_true, Bool.true_and]
      exact decide_eq_decide.2 (by omega)
    clear c2
    go_enter Try.func87, Try.ntmps87
    go_wp2
    go_ret
    exact ⟨by rw [hk]; rfl, rfl⟩
  · have c2b0 : decide ((1 : Int) ≤ (k.size : Int)) = false := decide_eq_false (by omega)
    have c2b1 : decide (1 ≤ k.size) = false := decide_eq_false c2
    have c2b2 : decide (0 < k.size) = false := decide_eq_false (by omega)
    have hk : keyOk k = false := by
      have : k.toList = [] := by
        have h1 := size_list k
        exact List.length_eq_zero_iff.1 (by omega)
      simp [keyOk, this]
    clear c2
    go_enter Try.func87, Try.ntmps87
    go_wp2
    go_ret
    exact ⟨by rw [hk]; rfl, rfl⟩
set_option maxHeartbeats 8000000 in
set_option maxRecDepth 100000 in
theorem c_rcheck (A : Option Addr) (c : Nat) (l : List S55) (w : World) (h1 : k55.C w A l.length l) (hl : l.length ≤ 1000000) (hsz : ∀ y ∈ l, y.f0.size ≤ 1000000000000) :
    Calls Try.prog 75 #[.slice A l.length c] w fun e w' => e = .returned (.int .i64 (checkS l)) ∧ Below w.heap.size w w' := by
  have HR := Aside0.mk h1
  have HL := Aside0.mk hl
  have HSZ := Aside0.mk hsz
  have HP := Aside0.mk (Hp.start w)
  have hll : (l.length : Int) ≤ 1000000 := by omega
  clear h1 hl hsz
  by_cases c2 : (l.length : Int) > 65536
  · have c2b0 : decide (65536 < (l.length : Int)) = true := decide_eq_true c2
    have HA := Aside0.mk (show checkS l = 3 from by unfold checkS; rw [if_pos (by omega)])
    clear c2
    go_enter Try.func75, Try.ntmps75
    go_wp2_with fail
    go_ret
    exact ⟨by rw [HA.out]; rfl, HP.out.below⟩
  · have c2b0 : decide (65536 < (l.length : Int)) = false := decide_eq_false c2
    have HA := Aside0.mk (show checkS l = (if pairsTo l l.length = true then 0 else 2) from by unfold checkS; rw [if_neg (by omega)])
    clear c2
    go_enter Try.func75, Try.ntmps75
    go_wp2_with fail
    go_loopg [3] l.length (fun kq vq w' => ∃ (j : Nat) (x : Int), vq = .int .i64 x ∧ Aside0 (x = (j : Int)) ∧ Aside0 (kq + j = l.length) ∧ Aside0 (pairsTo l j = true) ∧ Aside0 (Hp w w' []))
    case atStart => exact ⟨0, 0, rfl, ⟨rfl⟩, ⟨rfl⟩, ⟨rfl⟩, HP⟩
    clear HP
    obtain ⟨j, x, rfl, HX, HK, HG, HP⟩ := hrel
    have hx := HX.out
    by_cases c1 : j < l.length
    · have d1 : decide (x < (l.length : Int)) = true := decide_eq_true (by omega)
      have ex : IntKind.i64.wrap (x + 1) = x + 1 := IntWalk.i64_in _ (by omega)
      have p0 : 0 ≤ x := by omega
      have q0 : x < (l.length : Int) := by omega
      obtain ⟨y, hy⟩ : ∃ p, l[j]? = some p := ⟨_, List.getElem?_eq_getElem c1⟩
      obtain ⟨Ab, Ao, rfl⟩ := C_addrK (by decide) HR.out (by omega)
      have HYV := Aside0.mk (fun w' (hb : Below w.heap.size w w') => (show w'.cell? ⟨Ab, Ao + x.toNat * 2, none⟩ = some (.string y.f0) ∧ w'.cell? ⟨Ab, Ao + x.toNat * 2 + 1, none⟩ = some (.string y.f1) from by
        obtain ⟨cs, hcs, hra⟩ := range_K HR.out hy
        have hcs2 := k55_open hcs
        subst hcs2
        have h0 := hra 0 _ rfl
        have h1 := hra 1 _ rfl
        rw [show x.toNat = j by omega]
        exact ⟨(hb.cell (World.block_lt_of_cell? w _ h0)).trans h0, (hb.cell (World.block_lt_of_cell? w _ h1)).trans h1⟩))
      have HYD := Aside0.mk (show l.getD j z55 = y from by rw [List.getD_eq_getElem?_getD, hy]; rfl)
      have HBAD := Aside0.mk (fun hb : pairAt l j y = false => (show checkS l = 2 from by rw [HA.out, pairsTo_bad l c1 (by rw [HYD.out]; exact hb)]; rfl))
      have HY := Aside0.mk hy
      have HKS := Aside0.mk (HSZ.out y (List.mem_of_getElem? hy))
      clear hy hx
      go_upto_region 6 with fail
      have hx := HX.out
      by_cases ck : keyOk y.f0 = true
      · have hkey : keyOk y.f0 = true := ck
        clear ck
        by_cases cv : y.f1.size > 64
        · have c11b0 : decide (64 < (y.f1.size : Int)) = true := decide_eq_true (by omega)
          have hq : ¬ (y.f1.size ≤ 64) := by omega
          clear cv hx c1
          refine held_named (S := (fun w' => w'.cell? ⟨Ab, Ao + x.toNat * 2, none⟩ = some (.string y.f0) ∧ w'.cell? ⟨Ab, Ao + x.toNat * 2 + 1, none⟩ = some (.string y.f1))) (by kernel_rfl) (fun wd6 hwd6 => ?_)
          have HPn := Aside0.mk (HP.out.drewN 1)
          rw [← World.drew_is_drewN, hwd6] at HPn
          clear HP hwd6
          have HP := HPn
          clear HPn
          refine ⟨by (try dsimp only); exact HYV.out _ HP.out.below, fun hHeld => ?_⟩
          refine wpAnyH_take (i := 0) (oi := ({ dst := (some 13), op := (Op.move (Operand.tmp 0)), type := 24, pos := "ref.go:18", after := #[], guard := none } : Oper)) (v := ?_) rfl (by kernel_rfl) (by kernel_rfl) (by kernel_rfl) (fun _ _ _ h => h) (Or.inl ⟨by rfl, ?_⟩) hHeld ?_
          rotate_left
          · intro w_ hSw; (try dsimp only at hSw); obtain ⟨s1_, s2_⟩ := hSw; (try obtain ⟨s1_, s3_⟩ := s1_); go_simp; try (with_reducible rfl)
          try simp only [Act.put, List.setIfInBounds_toArray, List.set_cons_zero, List.set_cons_succ]
          refine wpAnyH_take (i := 1) (oi := ({ dst := (some 14), op := (Op.move (Operand.tmp 3)), type := 3, pos := "ref.go:18", after := #[], guard := none } : Oper)) (v := ?_) rfl (by kernel_rfl) (by kernel_rfl) (by kernel_rfl) (fun _ _ _ h => h) (Or.inl ⟨by rfl, ?_⟩) hHeld ?_
          rotate_left
          · intro w_ hSw; (try dsimp only at hSw); obtain ⟨s1_, s2_⟩ := hSw; (try obtain ⟨s1_, s3_⟩ := s1_); go_simp; try (with_reducible rfl)
          try simp only [Act.put, List.setIfInBounds_toArray, List.set_cons_zero, List.set_cons_succ]
          refine wpAnyH_take (i := 2) (oi := ({ dst := (some 15), op := (Op.indexAddr 24 (Operand.tmp 13) (Operand.tmp 14)), type := 0, pos := "ref.go:18", after := #[{ on := 0, ground := Ground.data }, { on := 1, ground := Ground.data }], guard := none } : Oper)) (v := ?_) rfl (by kernel_rfl) (by kernel_rfl) (by kernel_rfl) (fun _ _ _ h => h) (Or.inl ⟨by rfl, ?_⟩) hHeld ?_
          rotate_left
          · intro w_ hSw; (try dsimp only at hSw); obtain ⟨s1_, s2_⟩ := hSw; (try obtain ⟨s1_, s3_⟩ := s1_); go_simp; try (with_reducible rfl)
          try simp only [Act.put, List.setIfInBounds_toArray, List.set_cons_zero, List.set_cons_succ]
          refine wpAnyH_take (i := 3) (oi := ({ dst := (some 16), op := (Op.fieldAddr 55 (Operand.tmp 15) 0), type := 0, pos := "ref.go:18", after := #[{ on := 2, ground := Ground.data }], guard := none } : Oper)) (v := ?_) rfl (by kernel_rfl) (by kernel_rfl) (by kernel_rfl) (fun _ _ _ h => h) (Or.inl ⟨by rfl, ?_⟩) hHeld ?_
          rotate_left
          · intro w_ hSw; (try dsimp only at hSw); obtain ⟨s1_, s2_⟩ := hSw; (try obtain ⟨s1_, s3_⟩ := s1_); go_simp; try (with_reducible rfl)
          try simp only [Act.put, List.setIfInBounds_toArray, List.set_cons_zero, List.set_cons_succ]
          refine wpAnyH_take (i := 4) (oi := ({ dst := (some 17), op := (Op.load 9 (Operand.tmp 16)), type := 9, pos := "ref.go:18", after := #[{ on := 3, ground := Ground.data }], guard := none } : Oper)) (v := ?_) rfl (by kernel_rfl) (by kernel_rfl) (by kernel_rfl) (fun _ _ _ h => h) (Or.inl ⟨by rfl, ?_⟩) hHeld ?_
          rotate_left
          · intro w_ hSw; (try dsimp only at hSw); obtain ⟨s1_, s2_⟩ := hSw; (try obtain ⟨s1_, s3_⟩ := s1_); go_simp; try (with_reducible rfl)
          try simp only [Act.put, List.setIfInBounds_toArray, List.set_cons_zero, List.set_cons_succ]
          refine wpAnyH_ready (rs := [5]) (by kernel_rfl) (by simp) ?_
          refine AllReadyH.cons (o := ({ dst := (some 18), op := (Op.call { callee := (Callee.value (Operand.func 87)), args := #[(Operand.tmp 17)], argTypes := #[9] }), type := 4, pos := "ref.go:18", after := #[{ on := 4, ground := Ground.data }], guard := none } : Oper)) rfl (fun K hK => ?_) AllReadyH.nil
          go_simp
          go_at_call 87; refine (c_rkey _ HKS.out _).mono ?_; rintro e w_ ⟨rfl, rfl⟩; (try rw [hkey])
          go_wp2_with fail
          clear hHeld
          refine hK.out _ _ ?_ (fun hHeld => ?_)
          · (try dsimp only); exact HYV.out _ HP.out.below
          clear hK K
          try simp only [Act.put, List.setIfInBounds_toArray, List.set_cons_zero, List.set_cons_succ]
          refine wpAnyH_take (i := 6) (oi := ({ dst := (some 19), op := (Op.unOp UnOp.not 4 (Operand.tmp 18)), type := 4, pos := "ref.go:18", after := #[{ on := 5, ground := Ground.data }], guard := none } : Oper)) (v := ?_) rfl (by kernel_rfl) (by kernel_rfl) (by kernel_rfl) (fun _ _ _ h => h) (Or.inl ⟨by rfl, ?_⟩) hHeld ?_
          rotate_left
          · intro w_ hSw; (try dsimp only at hSw); obtain ⟨s1_, s2_⟩ := hSw; (try obtain ⟨s1_, s3_⟩ := s1_); go_simp; try (with_reducible rfl)
          try simp only [Act.put, List.setIfInBounds_toArray, List.set_cons_zero, List.set_cons_succ]
          refine wpAnyH_take (i := 7) (oi := ({ dst := (some 20), op := (Op.move (Operand.tmp 19)), type := 4, pos := "ref.go:18", after := #[{ on := 6, ground := Ground.data }, { on := 5, ground := Ground.chain }], guard := none } : Oper)) (v := ?_) rfl (by kernel_rfl) (by kernel_rfl) (by kernel_rfl) (fun _ _ _ h => h) (Or.inl ⟨by rfl, ?_⟩) hHeld ?_
          rotate_left
          · intro w_ hSw; (try dsimp only at hSw); obtain ⟨s1_, s2_⟩ := hSw; (try obtain ⟨s1_, s3_⟩ := s1_); go_simp; try (with_reducible rfl)
          try simp only [Act.put, List.setIfInBounds_toArray, List.set_cons_zero, List.set_cons_succ]
          refine wpAnyH_take (i := 8) (oi := ({ dst := (some 21), op := (Op.move (Operand.tmp 0)), type := 24, pos := "ref.go:18", after := #[{ on := 7, ground := Ground.guard }], guard := (some (7, false)) } : Oper)) (v := ?_) rfl (by kernel_rfl) (by kernel_rfl) (by kernel_rfl) (fun _ _ _ h => h) (Or.inl ⟨by rfl, ?_⟩) hHeld ?_
          rotate_left
          · intro w_ hSw; (try dsimp only at hSw); obtain ⟨s1_, s2_⟩ := hSw; (try obtain ⟨s1_, s3_⟩ := s1_); go_simp; try (with_reducible rfl)
          try simp only [Act.put, List.setIfInBounds_toArray, List.set_cons_zero, List.set_cons_succ]
          refine wpAnyH_take (i := 9) (oi := ({ dst := (some 22), op := (Op.move (Operand.tmp 3)), type := 3, pos := "ref.go:18", after := #[{ on := 7, ground := Ground.guard }], guard := (some (7, false)) } : Oper)) (v := ?_) rfl (by kernel_rfl) (by kernel_rfl) (by kernel_rfl) (fun _ _ _ h => h) (Or.inl ⟨by rfl, ?_⟩) hHeld ?_
          rotate_left
          · intro w_ hSw; (try dsimp only at hSw); obtain ⟨s1_, s2_⟩ := hSw; (try obtain ⟨s1_, s3_⟩ := s1_); go_simp; try (with_reducible rfl)
          try simp only [Act.put, List.setIfInBounds_toArray, List.set_cons_zero, List.set_cons_succ]
          refine wpAnyH_take (i := 10) (oi := ({ dst := (some 23), op := (Op.indexAddr 24 (Operand.tmp 21) (Operand.tmp 22)), type := 0, pos := "ref.go:18", after := #[{ on := 8, ground := Ground.data }, { on := 9, ground := Ground.data }, { on := 7, ground := Ground.guard }], guard := (some (7, false)) } : Oper)) (v := ?_) rfl (by kernel_rfl) (by kernel_rfl) (by kernel_rfl) (fun _ _ _ h => h) (Or.inl ⟨by rfl, ?_⟩) hHeld ?_
          rotate_left
          · intro w_ hSw; (try dsimp only at hSw); obtain ⟨s1_, s2_⟩ := hSw; (try obtain ⟨s1_, s3_⟩ := s1_); go_simp; try (with_reducible rfl)
          try simp only [Act.put, List.setIfInBounds_toArray, List.set_cons_zero, List.set_cons_succ]
          refine wpAnyH_take (i := 11) (oi := ({ dst := (some 24), op := (Op.fieldAddr 55 (Operand.tmp 23) 1), type := 0, pos := "ref.go:18", after := #[{ on := 10, ground := Ground.data }, { on := 7, ground := Ground.guard }], guard := (some (7, false)) } : Oper)) (v := ?_) rfl (by kernel_rfl) (by kernel_rfl) (by kernel_rfl) (fun _ _ _ h => h) (Or.inl ⟨by rfl, ?_⟩) hHeld ?_
          rotate_left
          · intro w_ hSw; (try dsimp only at hSw); obtain ⟨s1_, s2_⟩ := hSw; (try obtain ⟨s1_, s3_⟩ := s1_); go_simp; try (with_reducible rfl)
          try simp only [Act.put, List.setIfInBounds_toArray, List.set_cons_zero, List.set_cons_succ]
          refine wpAnyH_take (i := 12) (oi := ({ dst := (some 25), op := (Op.load 9 (Operand.tmp 24)), type := 9, pos := "ref.go:18", after := #[{ on := 11, ground := Ground.data }, { on := 7, ground := Ground.guard }], guard := (some (7, false)) } : Oper)) (v := ?_) rfl (by kernel_rfl) (by kernel_rfl) (by kernel_rfl) (fun _ _ _ h => h) (Or.inl ⟨by rfl, ?_⟩) hHeld ?_
          rotate_left
          · intro w_ hSw; (try dsimp only at hSw); obtain ⟨s1_, s2_⟩ := hSw; (try obtain ⟨s1_, s3_⟩ := s1_); go_simp; try (with_reducible rfl)
          try simp only [Act.put, List.setIfInBounds_toArray, List.set_cons_zero, List.set_cons_succ]
          refine wpAnyH_take (i := 13) (oi := ({ dst := (some 26), op := (Op.call { callee := (Callee.builtin Builtin.len), args := #[(Operand.tmp 25)], argTypes := #[9] }), type := 3, pos := "ref.go:18", after := #[{ on := 12, ground := Ground.data }, { on := 7, ground := Ground.guard }], guard := (some (7, false)) } : Oper)) (v := ?_) rfl (by kernel_rfl) (by kernel_rfl) (by kernel_rfl) (fun _ _ _ h => h) (Or.inl ⟨by rfl, ?_⟩) hHeld ?_
          rotate_left
          · intro w_ hSw; (try dsimp only at hSw); obtain ⟨s1_, s2_⟩ := hSw; (try obtain ⟨s1_, s3_⟩ := s1_); go_simp; try (with_reducible rfl)
          try simp only [Act.put, List.setIfInBounds_toArray, List.set_cons_zero, List.set_cons_succ]
          refine wpAnyH_take (i := 14) (oi := ({ dst := (some 27), op := (Op.binOp BinOp.gtr 3 (Operand.tmp 26) (Operand.const (Value.int IntKind.i64 64)) 3), type := 4, pos := "ref.go:18", after := #[{ on := 13, ground := Ground.data }, { on := 7, ground := Ground.guard }], guard := (some (7, false)) } : Oper)) (v := ?_) rfl (by kernel_rfl) (by kernel_rfl) (by kernel_rfl) (fun _ _ _ h => h) (Or.inl ⟨by rfl, ?_⟩) hHeld ?_
          rotate_left
          · intro w_ hSw; (try dsimp only at hSw); obtain ⟨s1_, s2_⟩ := hSw; (try obtain ⟨s1_, s3_⟩ := s1_); go_simp; try (with_reducible rfl)
          try simp only [Act.put, List.setIfInBounds_toArray, List.set_cons_zero, List.set_cons_succ]
          refine wpAnyH_take (i := 15) (oi := ({ dst := (some 28), op := (Op.pick (Operand.tmp 20) (Operand.const (Value.bool true)) (Operand.tmp 27)), type := 4, pos := "ref.go:18", after := #[{ on := 7, ground := Ground.data }, { on := 14, ground := Ground.data }], guard := none } : Oper)) (v := ?_) rfl (by kernel_rfl) (by kernel_rfl) (by kernel_rfl) (fun _ _ _ h => h) (Or.inl ⟨by rfl, ?_⟩) hHeld ?_
          rotate_left
          · intro w_ hSw; (try dsimp only at hSw); obtain ⟨s1_, s2_⟩ := hSw; (try obtain ⟨s1_, s3_⟩ := s1_); go_simp; try (with_reducible rfl)
          try simp only [Act.put, List.setIfInBounds_toArray, List.set_cons_zero, List.set_cons_succ]
          refine wpAnyH_take (i := 16) (oi := ({ dst := (some 29), op := (Op.move (Operand.tmp 28)), type := 4, pos := "ref.go:18", after := #[{ on := 15, ground := Ground.data }, { on := 7, ground := Ground.chain }], guard := none } : Oper)) (v := ?_) rfl (by kernel_rfl) (by kernel_rfl) (by kernel_rfl) (fun _ _ _ h => h) (Or.inl ⟨by rfl, ?_⟩) hHeld ?_
          rotate_left
          · intro w_ hSw; (try dsimp only at hSw); obtain ⟨s1_, s2_⟩ := hSw; (try obtain ⟨s1_, s3_⟩ := s1_); go_simp; try (with_reducible rfl)
          try simp only [Act.put, List.setIfInBounds_toArray, List.set_cons_zero, List.set_cons_succ]
          refine wpAnyH_take (i := 17) (oi := ({ dst := (some 30), op := (Op.move (Operand.tmp 3)), type := 3, pos := "ref.go:18", after := #[{ on := 16, ground := Ground.guard }], guard := (some (16, false)) } : Oper)) (v := _) rfl (by kernel_rfl) (by kernel_rfl) (by kernel_rfl) (fun _ _ _ h => h) (Or.inr ⟨by rfl, rfl⟩) hHeld ?_
          try simp only [Act.put, List.setIfInBounds_toArray, List.set_cons_zero, List.set_cons_succ]
          refine wpAnyH_take (i := 18) (oi := ({ dst := (some 31), op := (Op.binOp BinOp.gtr 3 (Operand.tmp 30) (Operand.const (Value.int IntKind.i64 0)) 3), type := 4, pos := "ref.go:18", after := #[{ on := 17, ground := Ground.data }, { on := 16, ground := Ground.guard }], guard := (some (16, false)) } : Oper)) (v := _) rfl (by kernel_rfl) (by kernel_rfl) (by kernel_rfl) (fun _ _ _ h => h) (Or.inr ⟨by rfl, rfl⟩) hHeld ?_
          try simp only [Act.put, List.setIfInBounds_toArray, List.set_cons_zero, List.set_cons_succ]
          refine wpAnyH_take (i := 19) (oi := ({ dst := (some 32), op := (Op.move (Operand.tmp 31)), type := 4, pos := "ref.go:18", after := #[{ on := 18, ground := Ground.data }, { on := 16, ground := Ground.chain }, { on := 16, ground := Ground.guard }], guard := (some (16, false)) } : Oper)) (v := _) rfl (by kernel_rfl) (by kernel_rfl) (by kernel_rfl) (fun _ _ _ h => h) (Or.inr ⟨by rfl, rfl⟩) hHeld ?_
          try simp only [Act.put, List.setIfInBounds_toArray, List.set_cons_zero, List.set_cons_succ]
          refine wpAnyH_take (i := 20) (oi := ({ dst := (some 33), op := (Op.move (Operand.tmp 0)), type := 24, pos := "ref.go:18", after := #[{ on := 19, ground := Ground.guard }], guard := (some (19, true)) } : Oper)) (v := _) rfl (by kernel_rfl) (by kernel_rfl) (by kernel_rfl) (fun _ _ _ h => h) (Or.inr ⟨by rfl, rfl⟩) hHeld ?_
          try simp only [Act.put, List.setIfInBounds_toArray, List.set_cons_zero, List.set_cons_succ]
          refine wpAnyH_take (i := 21) (oi := ({ dst := (some 34), op := (Op.move (Operand.tmp 3)), type := 3, pos := "ref.go:18", after := #[{ on := 19, ground := Ground.guard }], guard := (some (19, true)) } : Oper)) (v := _) rfl (by kernel_rfl) (by kernel_rfl) (by kernel_rfl) (fun _ _ _ h => h) (Or.inr ⟨by rfl, rfl⟩) hHeld ?_
          try simp only [Act.put, List.setIfInBounds_toArray, List.set_cons_zero, List.set_cons_succ]
          refine wpAnyH_take (i := 22) (oi := ({ dst := (some 35), op := (Op.binOp BinOp.sub 3 (Operand.tmp 34) (Operand.const (Value.int IntKind.i64 1)) 3), type := 3, pos := "ref.go:18", after := #[{ on := 21, ground := Ground.data }, { on := 19, ground := Ground.guard }], guard := (some (19, true)) } : Oper)) (v := _) rfl (by kernel_rfl) (by kernel_rfl) (by kernel_rfl) (fun _ _ _ h => h) (Or.inr ⟨by rfl, rfl⟩) hHeld ?_
          try simp only [Act.put, List.setIfInBounds_toArray, List.set_cons_zero, List.set_cons_succ]
          refine wpAnyH_take (i := 23) (oi := ({ dst := (some 36), op := (Op.indexAddr 24 (Operand.tmp 33) (Operand.tmp 35)), type := 0, pos := "ref.go:18", after := #[{ on := 20, ground := Ground.data }, { on := 22, ground := Ground.data }, { on := 19, ground := Ground.guard }], guard := (some (19, true)) } : Oper)) (v := _) rfl (by kernel_rfl) (by kernel_rfl) (by kernel_rfl) (fun _ _ _ h => h) (Or.inr ⟨by rfl, rfl⟩) hHeld ?_
          try simp only [Act.put, List.setIfInBounds_toArray, List.set_cons_zero, List.set_cons_succ]
          refine wpAnyH_take (i := 24) (oi := ({ dst := (some 37), op := (Op.fieldAddr 55 (Operand.tmp 36) 0), type := 0, pos := "ref.go:18", after := #[{ on := 23, ground := Ground.data }, { on := 19, ground := Ground.guard }], guard := (some (19, true)) } : Oper)) (v := _) rfl (by kernel_rfl) (by kernel_rfl) (by kernel_rfl) (fun _ _ _ h => h) (Or.inr ⟨by rfl, rfl⟩) hHeld ?_
          try simp only [Act.put, List.setIfInBounds_toArray, List.set_cons_zero, List.set_cons_succ]
          refine wpAnyH_take (i := 25) (oi := ({ dst := (some 38), op := (Op.load 9 (Operand.tmp 37)), type := 9, pos := "ref.go:18", after := #[{ on := 24, ground := Ground.data }, { on := 19, ground := Ground.guard }], guard := (some (19, true)) } : Oper)) (v := _) rfl (by kernel_rfl) (by kernel_rfl) (by kernel_rfl) (fun _ _ _ h => h) (Or.inr ⟨by rfl, rfl⟩) hHeld ?_
          try simp only [Act.put, List.setIfInBounds_toArray, List.set_cons_zero, List.set_cons_succ]
          refine wpAnyH_take (i := 26) (oi := ({ dst := (some 39), op := (Op.move (Operand.tmp 0)), type := 24, pos := "ref.go:18", after := #[{ on := 19, ground := Ground.guard }], guard := (some (19, true)) } : Oper)) (v := _) rfl (by kernel_rfl) (by kernel_rfl) (by kernel_rfl) (fun _ _ _ h => h) (Or.inr ⟨by rfl, rfl⟩) hHeld ?_
          try simp only [Act.put, List.setIfInBounds_toArray, List.set_cons_zero, List.set_cons_succ]
          refine wpAnyH_take (i := 27) (oi := ({ dst := (some 40), op := (Op.move (Operand.tmp 3)), type := 3, pos := "ref.go:18", after := #[{ on := 19, ground := Ground.guard }], guard := (some (19, true)) } : Oper)) (v := _) rfl (by kernel_rfl) (by kernel_rfl) (by kernel_rfl) (fun _ _ _ h => h) (Or.inr ⟨by rfl, rfl⟩) hHeld ?_
          try simp only [Act.put, List.setIfInBounds_toArray, List.set_cons_zero, List.set_cons_succ]
          refine wpAnyH_take (i := 28) (oi := ({ dst := (some 41), op := (Op.indexAddr 24 (Operand.tmp 39) (Operand.tmp 40)), type := 0, pos := "ref.go:18", after := #[{ on := 26, ground := Ground.data }, { on := 27, ground := Ground.data }, { on := 19, ground := Ground.guard }], guard := (some (19, true)) } : Oper)) (v := _) rfl (by kernel_rfl) (by kernel_rfl) (by kernel_rfl) (fun _ _ _ h => h) (Or.inr ⟨by rfl, rfl⟩) hHeld ?_
          try simp only [Act.put, List.setIfInBounds_toArray, List.set_cons_zero, List.set_cons_succ]
          refine wpAnyH_take (i := 29) (oi := ({ dst := (some 42), op := (Op.fieldAddr 55 (Operand.tmp 41) 0), type := 0, pos := "ref.go:18", after := #[{ on := 28, ground := Ground.data }, { on := 19, ground := Ground.guard }], guard := (some (19, true)) } : Oper)) (v := _) rfl (by kernel_rfl) (by kernel_rfl) (by kernel_rfl) (fun _ _ _ h => h) (Or.inr ⟨by rfl, rfl⟩) hHeld ?_
          try simp only [Act.put, List.setIfInBounds_toArray, List.set_cons_zero, List.set_cons_succ]
          refine wpAnyH_take (i := 30) (oi := ({ dst := (some 43), op := (Op.load 9 (Operand.tmp 42)), type := 9, pos := "ref.go:18", after := #[{ on := 29, ground := Ground.data }, { on := 19, ground := Ground.guard }], guard := (some (19, true)) } : Oper)) (v := _) rfl (by kernel_rfl) (by kernel_rfl) (by kernel_rfl) (fun _ _ _ h => h) (Or.inr ⟨by rfl, rfl⟩) hHeld ?_
          try simp only [Act.put, List.setIfInBounds_toArray, List.set_cons_zero, List.set_cons_succ]
          refine wpAnyH_take (i := 31) (oi := ({ dst := (some 44), op := (Op.binOp BinOp.geq 9 (Operand.tmp 38) (Operand.tmp 43) 9), type := 4, pos := "ref.go:18", after := #[{ on := 25, ground := Ground.data }, { on := 30, ground := Ground.data }, { on := 19, ground := Ground.guard }], guard := (some (19, true)) } : Oper)) (v := _) rfl (by kernel_rfl) (by kernel_rfl) (by kernel_rfl) (fun _ _ _ h => h) (Or.inr ⟨by rfl, rfl⟩) hHeld ?_
          try simp only [Act.put, List.setIfInBounds_toArray, List.set_cons_zero, List.set_cons_succ]
          refine wpAnyH_take (i := 32) (oi := ({ dst := (some 45), op := (Op.pick (Operand.tmp 32) (Operand.tmp 44) (Operand.const (Value.bool false))), type := 4, pos := "ref.go:18", after := #[{ on := 19, ground := Ground.data }, { on := 31, ground := Ground.data }, { on := 16, ground := Ground.guard }], guard := (some (16, false)) } : Oper)) (v := _) rfl (by kernel_rfl) (by kernel_rfl) (by kernel_rfl) (fun _ _ _ h => h) (Or.inr ⟨by rfl, rfl⟩) hHeld ?_
          try simp only [Act.put, List.setIfInBounds_toArray, List.set_cons_zero, List.set_cons_succ]
          refine wpAnyH_take (i := 33) (oi := ({ dst := (some 46), op := (Op.pick (Operand.tmp 29) (Operand.const (Value.bool true)) (Operand.tmp 45)), type := 4, pos := "ref.go:18", after := #[{ on := 16, ground := Ground.data }, { on := 32, ground := Ground.data }], guard := none } : Oper)) (v := ?_) rfl (by kernel_rfl) (by kernel_rfl) (by kernel_rfl) (fun _ _ _ h => h) (Or.inl ⟨by rfl, ?_⟩) hHeld ?_
          rotate_left
          · intro w_ hSw; (try dsimp only at hSw); obtain ⟨s1_, s2_⟩ := hSw; (try obtain ⟨s1_, s3_⟩ := s1_); go_simp; try (with_reducible rfl)
          try simp only [Act.put, List.setIfInBounds_toArray, List.set_cons_zero, List.set_cons_succ]
          refine wpAnyH_done (by kernel_rfl) ?_ _
          go_wp2_with fail
          go_ret
          exact ⟨by rw [HBAD.out (by simp [pairAt, *])]; rfl, HP.out.below⟩
        · have c11b0 : decide (64 < (y.f1.size : Int)) = false := decide_eq_false (by omega)
          have hq : y.f1.size ≤ 64 := by omega
          clear cv
          by_cases c0 : j = 0
          · have c0b : decide (0 < x) = false := decide_eq_false (by omega)
            clear hx c1
            refine held_named (S := (fun w' => w'.cell? ⟨Ab, Ao + x.toNat * 2, none⟩ = some (.string y.f0) ∧ w'.cell? ⟨Ab, Ao + x.toNat * 2 + 1, none⟩ = some (.string y.f1))) (by kernel_rfl) (fun wd6 hwd6 => ?_)
            have HPn := Aside0.mk (HP.out.drewN 1)
            rw [← World.drew_is_drewN, hwd6] at HPn
            clear HP hwd6
            have HP := HPn
            clear HPn
            refine ⟨by (try dsimp only); exact HYV.out _ HP.out.below, fun hHeld => ?_⟩
            refine wpAnyH_take (i := 0) (oi := ({ dst := (some 13), op := (Op.move (Operand.tmp 0)), type := 24, pos := "ref.go:18", after := #[], guard := none } : Oper)) (v := ?_) rfl (by kernel_rfl) (by kernel_rfl) (by kernel_rfl) (fun _ _ _ h => h) (Or.inl ⟨by rfl, ?_⟩) hHeld ?_
            rotate_left
            · intro w_ hSw; (try dsimp only at hSw); obtain ⟨s1_, s2_⟩ := hSw; (try obtain ⟨s1_, s3_⟩ := s1_); go_simp; try (with_reducible rfl)
            try simp only [Act.put, List.setIfInBounds_toArray, List.set_cons_zero, List.set_cons_succ]
            refine wpAnyH_take (i := 1) (oi := ({ dst := (some 14), op := (Op.move (Operand.tmp 3)), type := 3, pos := "ref.go:18", after := #[], guard := none } : Oper)) (v := ?_) rfl (by kernel_rfl) (by kernel_rfl) (by kernel_rfl) (fun _ _ _ h => h) (Or.inl ⟨by rfl, ?_⟩) hHeld ?_
            rotate_left
            · intro w_ hSw; (try dsimp only at hSw); obtain ⟨s1_, s2_⟩ := hSw; (try obtain ⟨s1_, s3_⟩ := s1_); go_simp; try (with_reducible rfl)
            try simp only [Act.put, List.setIfInBounds_toArray, List.set_cons_zero, List.set_cons_succ]
            refine wpAnyH_take (i := 2) (oi := ({ dst := (some 15), op := (Op.indexAddr 24 (Operand.tmp 13) (Operand.tmp 14)), type := 0, pos := "ref.go:18", after := #[{ on := 0, ground := Ground.data }, { on := 1, ground := Ground.data }], guard := none } : Oper)) (v := ?_) rfl (by kernel_rfl) (by kernel_rfl) (by kernel_rfl) (fun _ _ _ h => h) (Or.inl ⟨by rfl, ?_⟩) hHeld ?_
            rotate_left
            · intro w_ hSw; (try dsimp only at hSw); obtain ⟨s1_, s2_⟩ := hSw; (try obtain ⟨s1_, s3_⟩ := s1_); go_simp; try (with_reducible rfl)
            try simp only [Act.put, List.setIfInBounds_toArray, List.set_cons_zero, List.set_cons_succ]
            refine wpAnyH_take (i := 3) (oi := ({ dst := (some 16), op := (Op.fieldAddr 55 (Operand.tmp 15) 0), type := 0, pos := "ref.go:18", after := #[{ on := 2, ground := Ground.data }], guard := none } : Oper)) (v := ?_) rfl (by kernel_rfl) (by kernel_rfl) (by kernel_rfl) (fun _ _ _ h => h) (Or.inl ⟨by rfl, ?_⟩) hHeld ?_
            rotate_left
            · intro w_ hSw; (try dsimp only at hSw); obtain ⟨s1_, s2_⟩ := hSw; (try obtain ⟨s1_, s3_⟩ := s1_); go_simp; try (with_reducible rfl)
            try simp only [Act.put, List.setIfInBounds_toArray, List.set_cons_zero, List.set_cons_succ]
            refine wpAnyH_take (i := 4) (oi := ({ dst := (some 17), op := (Op.load 9 (Operand.tmp 16)), type := 9, pos := "ref.go:18", after := #[{ on := 3, ground := Ground.data }], guard := none } : Oper)) (v := ?_) rfl (by kernel_rfl) (by kernel_rfl) (by kernel_rfl) (fun _ _ _ h => h) (Or.inl ⟨by rfl, ?_⟩) hHeld ?_
            rotate_left
            · intro w_ hSw; (try dsimp only at hSw); obtain ⟨s1_, s2_⟩ := hSw; (try obtain ⟨s1_, s3_⟩ := s1_); go_simp; try (with_reducible rfl)
            try simp only [Act.put, List.setIfInBounds_toArray, List.set_cons_zero, List.set_cons_succ]
            refine wpAnyH_ready (rs := [5]) (by kernel_rfl) (by simp) ?_
            refine AllReadyH.cons (o := ({ dst := (some 18), op := (Op.call { callee := (Callee.value (Operand.func 87)), args := #[(Operand.tmp 17)], argTypes := #[9] }), type := 4, pos := "ref.go:18", after := #[{ on := 4, ground := Ground.data }], guard := none } : Oper)) rfl (fun K hK => ?_) AllReadyH.nil
            go_simp
            go_at_call 87; refine (c_rkey _ HKS.out _).mono ?_; rintro e w_ ⟨rfl, rfl⟩; (try rw [hkey])
            go_wp2_with fail
            clear hHeld
            refine hK.out _ _ ?_ (fun hHeld => ?_)
            · (try dsimp only); exact HYV.out _ HP.out.below
            clear hK K
            try simp only [Act.put, List.setIfInBounds_toArray, List.set_cons_zero, List.set_cons_succ]
            refine wpAnyH_take (i := 6) (oi := ({ dst := (some 19), op := (Op.unOp UnOp.not 4 (Operand.tmp 18)), type := 4, pos := "ref.go:18", after := #[{ on := 5, ground := Ground.data }], guard := none } : Oper)) (v := ?_) rfl (by kernel_rfl) (by kernel_rfl) (by kernel_rfl) (fun _ _ _ h => h) (Or.inl ⟨by rfl, ?_⟩) hHeld ?_
            rotate_left
            · intro w_ hSw; (try dsimp only at hSw); obtain ⟨s1_, s2_⟩ := hSw; (try obtain ⟨s1_, s3_⟩ := s1_); go_simp; try (with_reducible rfl)
            try simp only [Act.put, List.setIfInBounds_toArray, List.set_cons_zero, List.set_cons_succ]
            refine wpAnyH_take (i := 7) (oi := ({ dst := (some 20), op := (Op.move (Operand.tmp 19)), type := 4, pos := "ref.go:18", after := #[{ on := 6, ground := Ground.data }, { on := 5, ground := Ground.chain }], guard := none } : Oper)) (v := ?_) rfl (by kernel_rfl) (by kernel_rfl) (by kernel_rfl) (fun _ _ _ h => h) (Or.inl ⟨by rfl, ?_⟩) hHeld ?_
            rotate_left
            · intro w_ hSw; (try dsimp only at hSw); obtain ⟨s1_, s2_⟩ := hSw; (try obtain ⟨s1_, s3_⟩ := s1_); go_simp; try (with_reducible rfl)
            try simp only [Act.put, List.setIfInBounds_toArray, List.set_cons_zero, List.set_cons_succ]
            refine wpAnyH_take (i := 8) (oi := ({ dst := (some 21), op := (Op.move (Operand.tmp 0)), type := 24, pos := "ref.go:18", after := #[{ on := 7, ground := Ground.guard }], guard := (some (7, false)) } : Oper)) (v := ?_) rfl (by kernel_rfl) (by kernel_rfl) (by kernel_rfl) (fun _ _ _ h => h) (Or.inl ⟨by rfl, ?_⟩) hHeld ?_
            rotate_left
            · intro w_ hSw; (try dsimp only at hSw); obtain ⟨s1_, s2_⟩ := hSw; (try obtain ⟨s1_, s3_⟩ := s1_); go_simp; try (with_reducible rfl)
            try simp only [Act.put, List.setIfInBounds_toArray, List.set_cons_zero, List.set_cons_succ]
            refine wpAnyH_take (i := 9) (oi := ({ dst := (some 22), op := (Op.move (Operand.tmp 3)), type := 3, pos := "ref.go:18", after := #[{ on := 7, ground := Ground.guard }], guard := (some (7, false)) } : Oper)) (v := ?_) rfl (by kernel_rfl) (by kernel_rfl) (by kernel_rfl) (fun _ _ _ h => h) (Or.inl ⟨by rfl, ?_⟩) hHeld ?_
            rotate_left
            · intro w_ hSw; (try dsimp only at hSw); obtain ⟨s1_, s2_⟩ := hSw; (try obtain ⟨s1_, s3_⟩ := s1_); go_simp; try (with_reducible rfl)
            try simp only [Act.put, List.setIfInBounds_toArray, List.set_cons_zero, List.set_cons_succ]
            refine wpAnyH_take (i := 10) (oi := ({ dst := (some 23), op := (Op.indexAddr 24 (Operand.tmp 21) (Operand.tmp 22)), type := 0, pos := "ref.go:18", after := #[{ on := 8, ground := Ground.data }, { on := 9, ground := Ground.data }, { on := 7, ground := Ground.guard }], guard := (some (7, false)) } : Oper)) (v := ?_) rfl (by kernel_rfl) (by kernel_rfl) (by kernel_rfl) (fun _ _ _ h => h) (Or.inl ⟨by rfl, ?_⟩) hHeld ?_
            rotate_left
            · intro w_ hSw; (try dsimp only at hSw); obtain ⟨s1_, s2_⟩ := hSw; (try obtain ⟨s1_, s3_⟩ := s1_); go_simp; try (with_reducible rfl)
            try simp only [Act.put, List.setIfInBounds_toArray, List.set_cons_zero, List.set_cons_succ]
            refine wpAnyH_take (i := 11) (oi := ({ dst := (some 24), op := (Op.fieldAddr 55 (Operand.tmp 23) 1), type := 0, pos := "ref.go:18", after := #[{ on := 10, ground := Ground.data }, { on := 7, ground := Ground.guard }], guard := (some (7, false)) } : Oper)) (v := ?_) rfl (by kernel_rfl) (by kernel_rfl) (by kernel_rfl) (fun _ _ _ h => h) (Or.inl ⟨by rfl, ?_⟩) hHeld ?_
            rotate_left
            · intro w_ hSw; (try dsimp only at hSw); obtain ⟨s1_, s2_⟩ := hSw; (try obtain ⟨s1_, s3_⟩ := s1_); go_simp; try (with_reducible rfl)
            try simp only [Act.put, List.setIfInBounds_toArray, List.set_cons_zero, List.set_cons_succ]
            refine wpAnyH_take (i := 12) (oi := ({ dst := (some 25), op := (Op.load 9 (Operand.tmp 24)), type := 9, pos := "ref.go:18", after := #[{ on := 11, ground := Ground.data }, { on := 7, ground := Ground.guard }], guard := (some (7, false)) } : Oper)) (v := ?_) rfl (by kernel_rfl) (by kernel_rfl) (by kernel_rfl) (fun _ _ _ h => h) (Or.inl ⟨by rfl, ?_⟩) hHeld ?_
            rotate_left
            · intro w_ hSw; (try dsimp only at hSw); obtain ⟨s1_, s2_⟩ := hSw; (try obtain ⟨s1_, s3_⟩ := s1_); go_simp; try (with_reducible rfl)
            try simp only [Act.put, List.setIfInBounds_toArray, List.set_cons_zero, List.set_cons_succ]
            refine wpAnyH_take (i := 13) (oi := ({ dst := (some 26), op := (Op.call { callee := (Callee.builtin Builtin.len), args := #[(Operand.tmp 25)], argTypes := #[9] }), type := 3, pos := "ref.go:18", after := #[{ on := 12, ground := Ground.data }, { on := 7, ground := Ground.guard }], guard := (some (7, false)) } : Oper)) (v := ?_) rfl (by kernel_rfl) (by kernel_rfl) (by kernel_rfl) (fun _ _ _ h => h) (Or.inl ⟨by rfl, ?_⟩) hHeld ?_
            rotate_left
            · intro w_ hSw; (try dsimp only at hSw); obtain ⟨s1_, s2_⟩ := hSw; (try obtain ⟨s1_, s3_⟩ := s1_); go_simp; try (with_reducible rfl)
            try simp only [Act.put, List.setIfInBounds_toArray, List.set_cons_zero, List.set_cons_succ]
            refine wpAnyH_take (i := 14) (oi := ({ dst := (some 27), op := (Op.binOp BinOp.gtr 3 (Operand.tmp 26) (Operand.const (Value.int IntKind.i64 64)) 3), type := 4, pos := "ref.go:18", after := #[{ on := 13, ground := Ground.data }, { on := 7, ground := Ground.guard }], guard := (some (7, false)) } : Oper)) (v := ?_) rfl (by kernel_rfl) (by kernel_rfl) (by kernel_rfl) (fun _ _ _ h => h) (Or.inl ⟨by rfl, ?_⟩) hHeld ?_
            rotate_left
            · intro w_ hSw; (try dsimp only at hSw); obtain ⟨s1_, s2_⟩ := hSw; (try obtain ⟨s1_, s3_⟩ := s1_); go_simp; try (with_reducible rfl)
            try simp only [Act.put, List.setIfInBounds_toArray, List.set_cons_zero, List.set_cons_succ]
            refine wpAnyH_take (i := 15) (oi := ({ dst := (some 28), op := (Op.pick (Operand.tmp 20) (Operand.const (Value.bool true)) (Operand.tmp 27)), type := 4, pos := "ref.go:18", after := #[{ on := 7, ground := Ground.data }, { on := 14, ground := Ground.data }], guard := none } : Oper)) (v := ?_) rfl (by kernel_rfl) (by kernel_rfl) (by kernel_rfl) (fun _ _ _ h => h) (Or.inl ⟨by rfl, ?_⟩) hHeld ?_
            rotate_left
            · intro w_ hSw; (try dsimp only at hSw); obtain ⟨s1_, s2_⟩ := hSw; (try obtain ⟨s1_, s3_⟩ := s1_); go_simp; try (with_reducible rfl)
            try simp only [Act.put, List.setIfInBounds_toArray, List.set_cons_zero, List.set_cons_succ]
            refine wpAnyH_take (i := 16) (oi := ({ dst := (some 29), op := (Op.move (Operand.tmp 28)), type := 4, pos := "ref.go:18", after := #[{ on := 15, ground := Ground.data }, { on := 7, ground := Ground.chain }], guard := none } : Oper)) (v := ?_) rfl (by kernel_rfl) (by kernel_rfl) (by kernel_rfl) (fun _ _ _ h => h) (Or.inl ⟨by rfl, ?_⟩) hHeld ?_
            rotate_left
            · intro w_ hSw; (try dsimp only at hSw); obtain ⟨s1_, s2_⟩ := hSw; (try obtain ⟨s1_, s3_⟩ := s1_); go_simp; try (with_reducible rfl)
            try simp only [Act.put, List.setIfInBounds_toArray, List.set_cons_zero, List.set_cons_succ]
            refine wpAnyH_take (i := 17) (oi := ({ dst := (some 30), op := (Op.move (Operand.tmp 3)), type := 3, pos := "ref.go:18", after := #[{ on := 16, ground := Ground.guard }], guard := (some (16, false)) } : Oper)) (v := ?_) rfl (by kernel_rfl) (by kernel_rfl) (by kernel_rfl) (fun _ _ _ h => h) (Or.inl ⟨by rfl, ?_⟩) hHeld ?_
            rotate_left
            · intro w_ hSw; (try dsimp only at hSw); obtain ⟨s1_, s2_⟩ := hSw; (try obtain ⟨s1_, s3_⟩ := s1_); go_simp; try (with_reducible rfl)
            try simp only [Act.put, List.setIfInBounds_toArray, List.set_cons_zero, List.set_cons_succ]
            refine wpAnyH_take (i := 18) (oi := ({ dst := (some 31), op := (Op.binOp BinOp.gtr 3 (Operand.tmp 30) (Operand.const (Value.int IntKind.i64 0)) 3), type := 4, pos := "ref.go:18", after := #[{ on := 17, ground := Ground.data }, { on := 16, ground := Ground.guard }], guard := (some (16, false)) } : Oper)) (v := ?_) rfl (by kernel_rfl) (by kernel_rfl) (by kernel_rfl) (fun _ _ _ h => h) (Or.inl ⟨by rfl, ?_⟩) hHeld ?_
            rotate_left
            · intro w_ hSw; (try dsimp only at hSw); obtain ⟨s1_, s2_⟩ := hSw; (try obtain ⟨s1_, s3_⟩ := s1_); go_simp; try (with_reducible rfl)
            try simp only [Act.put, List.setIfInBounds_toArray, List.set_cons_zero, List.set_cons_succ]
            refine wpAnyH_take (i := 19) (oi := ({ dst := (some 32), op := (Op.move (Operand.tmp 31)), type := 4, pos := "ref.go:18", after := #[{ on := 18, ground := Ground.data }, { on := 16, ground := Ground.chain }, { on := 16, ground := Ground.guard }], guard := (some (16, false)) } : Oper)) (v := ?_) rfl (by kernel_rfl) (by kernel_rfl) (by kernel_rfl) (fun _ _ _ h => h) (Or.inl ⟨by rfl, ?_⟩) hHeld ?_
            rotate_left
            · intro w_ hSw; (try dsimp only at hSw); obtain ⟨s1_, s2_⟩ := hSw; (try obtain ⟨s1_, s3_⟩ := s1_); go_simp; try (with_reducible rfl)
            try simp only [Act.put, List.setIfInBounds_toArray, List.set_cons_zero, List.set_cons_succ]
            refine wpAnyH_take (i := 20) (oi := ({ dst := (some 33), op := (Op.move (Operand.tmp 0)), type := 24, pos := "ref.go:18", after := #[{ on := 19, ground := Ground.guard }], guard := (some (19, true)) } : Oper)) (v := _) rfl (by kernel_rfl) (by kernel_rfl) (by kernel_rfl) (fun _ _ _ h => h) (Or.inr ⟨by rfl, rfl⟩) hHeld ?_
            try simp only [Act.put, List.setIfInBounds_toArray, List.set_cons_zero, List.set_cons_succ]
            refine wpAnyH_take (i := 21) (oi := ({ dst := (some 34), op := (Op.move (Operand.tmp 3)), type := 3, pos := "ref.go:18", after := #[{ on := 19, ground := Ground.guard }], guard := (some (19, true)) } : Oper)) (v := _) rfl (by kernel_rfl) (by kernel_rfl) (by kernel_rfl) (fun _ _ _ h => h) (Or.inr ⟨by rfl, rfl⟩) hHeld ?_
            try simp only [Act.put, List.setIfInBounds_toArray, List.set_cons_zero, List.set_cons_succ]
            refine wpAnyH_take (i := 22) (oi := ({ dst := (some 35), op := (Op.binOp BinOp.sub 3 (Operand.tmp 34) (Operand.const (Value.int IntKind.i64 1)) 3), type := 3, pos := "ref.go:18", after := #[{ on := 21, ground := Ground.data }, { on := 19, ground := Ground.guard }], guard := (some (19, true)) } : Oper)) (v := _) rfl (by kernel_rfl) (by kernel_rfl) (by kernel_rfl) (fun _ _ _ h => h) (Or.inr ⟨by rfl, rfl⟩) hHeld ?_
            try simp only [Act.put, List.setIfInBounds_toArray, List.set_cons_zero, List.set_cons_succ]
            refine wpAnyH_take (i := 23) (oi := ({ dst := (some 36), op := (Op.indexAddr 24 (Operand.tmp 33) (Operand.tmp 35)), type := 0, pos := "ref.go:18", after := #[{ on := 20, ground := Ground.data }, { on := 22, ground := Ground.data }, { on := 19, ground := Ground.guard }], guard := (some (19, true)) } : Oper)) (v := _) rfl (by kernel_rfl) (by kernel_rfl) (by kernel_rfl) (fun _ _ _ h => h) (Or.inr ⟨by rfl, rfl⟩) hHeld ?_
            try simp only [Act.put, List.setIfInBounds_toArray, List.set_cons_zero, List.set_cons_succ]
            refine wpAnyH_take (i := 24) (oi := ({ dst := (some 37), op := (Op.fieldAddr 55 (Operand.tmp 36) 0), type := 0, pos := "ref.go:18", after := #[{ on := 23, ground := Ground.data }, { on := 19, ground := Ground.guard }], guard := (some (19, true)) } : Oper)) (v := _) rfl (by kernel_rfl) (by kernel_rfl) (by kernel_rfl) (fun _ _ _ h => h) (Or.inr ⟨by rfl, rfl⟩) hHeld ?_
            try simp only [Act.put, List.setIfInBounds_toArray, List.set_cons_zero, List.set_cons_succ]
            refine wpAnyH_take (i := 25) (oi := ({ dst := (some 38), op := (Op.load 9 (Operand.tmp 37)), type := 9, pos := "ref.go:18", after := #[{ on := 24, ground := Ground.data }, { on := 19, ground := Ground.guard }], guard := (some (19, true)) } : Oper)) (v := _) rfl (by kernel_rfl) (by kernel_rfl) (by kernel_rfl) (fun _ _ _ h => h) (Or.inr ⟨by rfl, rfl⟩) hHeld ?_
            try simp only [Act.put, List.setIfInBounds_toArray, List.set_cons_zero, List.set_cons_succ]
            refine wpAnyH_take (i := 26) (oi := ({ dst := (some 39), op := (Op.move (Operand.tmp 0)), type := 24, pos := "ref.go:18", after := #[{ on := 19, ground := Ground.guard }], guard := (some (19, true)) } : Oper)) (v := _) rfl (by kernel_rfl) (by kernel_rfl) (by kernel_rfl) (fun _ _ _ h => h) (Or.inr ⟨by rfl, rfl⟩) hHeld ?_
            try simp only [Act.put, List.setIfInBounds_toArray, List.set_cons_zero, List.set_cons_succ]
            refine wpAnyH_take (i := 27) (oi := ({ dst := (some 40), op := (Op.move (Operand.tmp 3)), type := 3, pos := "ref.go:18", after := #[{ on := 19, ground := Ground.guard }], guard := (some (19, true)) } : Oper)) (v := _) rfl (by kernel_rfl) (by kernel_rfl) (by kernel_rfl) (fun _ _ _ h => h) (Or.inr ⟨by rfl, rfl⟩) hHeld ?_
            try simp only [Act.put, List.setIfInBounds_toArray, List.set_cons_zero, List.set_cons_succ]
            refine wpAnyH_take (i := 28) (oi := ({ dst := (some 41), op := (Op.indexAddr 24 (Operand.tmp 39) (Operand.tmp 40)), type := 0, pos := "ref.go:18", after := #[{ on := 26, ground := Ground.data }, { on := 27, ground := Ground.data }, { on := 19, ground := Ground.guard }], guard := (some (19, true)) } : Oper)) (v := _) rfl (by kernel_rfl) (by kernel_rfl) (by kernel_rfl) (fun _ _ _ h => h) (Or.inr ⟨by rfl, rfl⟩) hHeld ?_
            try simp only [Act.put, List.setIfInBounds_toArray, List.set_cons_zero, List.set_cons_succ]
            refine wpAnyH_take (i := 29) (oi := ({ dst := (some 42), op := (Op.fieldAddr 55 (Operand.tmp 41) 0), type := 0, pos := "ref.go:18", after := #[{ on := 28, ground := Ground.data }, { on := 19, ground := Ground.guard }], guard := (some (19, true)) } : Oper)) (v := _) rfl (by kernel_rfl) (by kernel_rfl) (by kernel_rfl) (fun _ _ _ h => h) (Or.inr ⟨by rfl, rfl⟩) hHeld ?_
            try simp only [Act.put, List.setIfInBounds_toArray, List.set_cons_zero, List.set_cons_succ]
            refine wpAnyH_take (i := 30) (oi := ({ dst := (some 43), op := (Op.load 9 (Operand.tmp 42)), type := 9, pos := "ref.go:18", after := #[{ on := 29, ground := Ground.data }, { on := 19, ground := Ground.guard }], guard := (some (19, true)) } : Oper)) (v := _) rfl (by kernel_rfl) (by kernel_rfl) (by kernel_rfl) (fun _ _ _ h => h) (Or.inr ⟨by rfl, rfl⟩) hHeld ?_
            try simp only [Act.put, List.setIfInBounds_toArray, List.set_cons_zero, List.set_cons_succ]
            refine wpAnyH_take (i := 31) (oi := ({ dst := (some 44), op := (Op.binOp BinOp.geq 9 (Operand.tmp 38) (Operand.tmp 43) 9), type := 4, pos := "ref.go:18", after := #[{ on := 25, ground := Ground.data }, { on := 30, ground := Ground.data }, { on := 19, ground := Ground.guard }], guard := (some (19, true)) } : Oper)) (v := _) rfl (by kernel_rfl) (by kernel_rfl) (by kernel_rfl) (fun _ _ _ h => h) (Or.inr ⟨by rfl, rfl⟩) hHeld ?_
            try simp only [Act.put, List.setIfInBounds_toArray, List.set_cons_zero, List.set_cons_succ]
            refine wpAnyH_take (i := 32) (oi := ({ dst := (some 45), op := (Op.pick (Operand.tmp 32) (Operand.tmp 44) (Operand.const (Value.bool false))), type := 4, pos := "ref.go:18", after := #[{ on := 19, ground := Ground.data }, { on := 31, ground := Ground.data }, { on := 16, ground := Ground.guard }], guard := (some (16, false)) } : Oper)) (v := ?_) rfl (by kernel_rfl) (by kernel_rfl) (by kernel_rfl) (fun _ _ _ h => h) (Or.inl ⟨by rfl, ?_⟩) hHeld ?_
            rotate_left
            · intro w_ hSw; (try dsimp only at hSw); obtain ⟨s1_, s2_⟩ := hSw; (try obtain ⟨s1_, s3_⟩ := s1_); go_simp; try (with_reducible rfl)
            try simp only [Act.put, List.setIfInBounds_toArray, List.set_cons_zero, List.set_cons_succ]
            refine wpAnyH_take (i := 33) (oi := ({ dst := (some 46), op := (Op.pick (Operand.tmp 29) (Operand.const (Value.bool true)) (Operand.tmp 45)), type := 4, pos := "ref.go:18", after := #[{ on := 16, ground := Ground.data }, { on := 32, ground := Ground.data }], guard := none } : Oper)) (v := ?_) rfl (by kernel_rfl) (by kernel_rfl) (by kernel_rfl) (fun _ _ _ h => h) (Or.inl ⟨by rfl, ?_⟩) hHeld ?_
            rotate_left
            · intro w_ hSw; (try dsimp only at hSw); obtain ⟨s1_, s2_⟩ := hSw; (try obtain ⟨s1_, s3_⟩ := s1_); go_simp; try (with_reducible rfl)
            try simp only [Act.put, List.setIfInBounds_toArray, List.set_cons_zero, List.set_cons_succ]
            refine wpAnyH_done (by kernel_rfl) ?_ _
            go_wp2_with fail
            go_roundg (gk - 1)
            case measure => have := HK.out; have := (List.getElem?_eq_some_iff.1 HY.out).1; omega
            case rel => exact ⟨j + 1, x + 1, rfl, ⟨by have := HX.out; omega⟩, ⟨by have := HK.out; have := (List.getElem?_eq_some_iff.1 HY.out).1; omega⟩, ⟨by rw [pairsTo_succ, HG.out, HYD.out]; (try rw [hpd]); simp [pairAt, *]⟩, HP⟩
          · have c0b : decide (0 < x) = true := decide_eq_true (by omega)
            have ex2 : IntKind.i64.wrap (x - 1) = x - 1 := IntWalk.i64_in _ (by omega)
            have p3 : 1 ≤ x := by omega
            have q3 : x - 1 < (l.length : Int) := by omega
            obtain ⟨p, hp⟩ : ∃ p, l[j - 1]? = some p := ⟨_, List.getElem?_eq_getElem (by omega)⟩
            obtain ⟨cs, hcs, hra⟩ := range_K HR.out hp
            have hcs2 := k55_open hcs
            subst hcs2
            have hxt : x.toNat - 1 = j - 1 := by omega
            have HPV := Aside0.mk (fun w' (hb : Below w.heap.size w w') => (show w'.cell? ⟨Ab, Ao + (x.toNat - 1) * 2, none⟩ = some (.string p.f0) from by
              have h0 := hra 0 _ rfl
              rw [hxt]
              exact (hb.cell (World.block_lt_of_cell? w _ h0)).trans h0))
            have HPD := Aside0.mk (show pairAt l j y = (keyOk y.f0 && decide (y.f1.size ≤ 64) && (decide (j = 0) || Op.bytesLess p.f0.toList y.f0.toList)) from by unfold pairAt; rw [show l.getD (j - 1) z55 = p from by rw [List.getD_eq_getElem?_getD, hp]; rfl])
            clear hp hcs hra hxt hx c1
            cases hbl : Op.bytesLess p.f0.toList y.f0.toList with
            | true =>
              refine held_named (S := (fun w' => (w'.cell? ⟨Ab, Ao + x.toNat * 2, none⟩ = some (.string y.f0) ∧ w'.cell? ⟨Ab, Ao + x.toNat * 2 + 1, none⟩ = some (.string y.f1)) ∧ w'.cell? ⟨Ab, Ao + (x.toNat - 1) * 2, none⟩ = some (.string p.f0))) (by kernel_rfl) (fun wd6 hwd6 => ?_)
              have HPn := Aside0.mk (HP.out.drewN 1)
              rw [← World.drew_is_drewN, hwd6] at HPn
              clear HP hwd6
              have HP := HPn
              clear HPn
              refine ⟨by (try dsimp only); exact ⟨HYV.out _ HP.out.below, HPV.out _ HP.out.below⟩, fun hHeld => ?_⟩
              refine wpAnyH_take (i := 0) (oi := ({ dst := (some 13), op := (Op.move (Operand.tmp 0)), type := 24, pos := "ref.go:18", after := #[], guard := none } : Oper)) (v := ?_) rfl (by kernel_rfl) (by kernel_rfl) (by kernel_rfl) (fun _ _ _ h => h) (Or.inl ⟨by rfl, ?_⟩) hHeld ?_
              rotate_left
              · intro w_ hSw; (try dsimp only at hSw); obtain ⟨s1_, s2_⟩ := hSw; (try obtain ⟨s1_, s3_⟩ := s1_); go_simp; try (with_reducible rfl)
              try simp only [Act.put, List.setIfInBounds_toArray, List.set_cons_zero, List.set_cons_succ]
              refine wpAnyH_take (i := 1) (oi := ({ dst := (some 14), op := (Op.move (Operand.tmp 3)), type := 3, pos := "ref.go:18", after := #[], guard := none } : Oper)) (v := ?_) rfl (by kernel_rfl) (by kernel_rfl) (by kernel_rfl) (fun _ _ _ h => h) (Or.inl ⟨by rfl, ?_⟩) hHeld ?_
              rotate_left
              · intro w_ hSw; (try dsimp only at hSw); obtain ⟨s1_, s2_⟩ := hSw; (try obtain ⟨s1_, s3_⟩ := s1_); go_simp; try (with_reducible rfl)
              try simp only [Act.put, List.setIfInBounds_toArray, List.set_cons_zero, List.set_cons_succ]
              refine wpAnyH_take (i := 2) (oi := ({ dst := (some 15), op := (Op.indexAddr 24 (Operand.tmp 13) (Operand.tmp 14)), type := 0, pos := "ref.go:18", after := #[{ on := 0, ground := Ground.data }, { on := 1, ground := Ground.data }], guard := none } : Oper)) (v := ?_) rfl (by kernel_rfl) (by kernel_rfl) (by kernel_rfl) (fun _ _ _ h => h) (Or.inl ⟨by rfl, ?_⟩) hHeld ?_
              rotate_left
              · intro w_ hSw; (try dsimp only at hSw); obtain ⟨s1_, s2_⟩ := hSw; (try obtain ⟨s1_, s3_⟩ := s1_); go_simp; try (with_reducible rfl)
              try simp only [Act.put, List.setIfInBounds_toArray, List.set_cons_zero, List.set_cons_succ]
              refine wpAnyH_take (i := 3) (oi := ({ dst := (some 16), op := (Op.fieldAddr 55 (Operand.tmp 15) 0), type := 0, pos := "ref.go:18", after := #[{ on := 2, ground := Ground.data }], guard := none } : Oper)) (v := ?_) rfl (by kernel_rfl) (by kernel_rfl) (by kernel_rfl) (fun _ _ _ h => h) (Or.inl ⟨by rfl, ?_⟩) hHeld ?_
              rotate_left
              · intro w_ hSw; (try dsimp only at hSw); obtain ⟨s1_, s2_⟩ := hSw; (try obtain ⟨s1_, s3_⟩ := s1_); go_simp; try (with_reducible rfl)
              try simp only [Act.put, List.setIfInBounds_toArray, List.set_cons_zero, List.set_cons_succ]
              refine wpAnyH_take (i := 4) (oi := ({ dst := (some 17), op := (Op.load 9 (Operand.tmp 16)), type := 9, pos := "ref.go:18", after := #[{ on := 3, ground := Ground.data }], guard := none } : Oper)) (v := ?_) rfl (by kernel_rfl) (by kernel_rfl) (by kernel_rfl) (fun _ _ _ h => h) (Or.inl ⟨by rfl, ?_⟩) hHeld ?_
              rotate_left
              · intro w_ hSw; (try dsimp only at hSw); obtain ⟨s1_, s2_⟩ := hSw; (try obtain ⟨s1_, s3_⟩ := s1_); go_simp; try (with_reducible rfl)
              try simp only [Act.put, List.setIfInBounds_toArray, List.set_cons_zero, List.set_cons_succ]
              refine wpAnyH_ready (rs := [5]) (by kernel_rfl) (by simp) ?_
              refine AllReadyH.cons (o := ({ dst := (some 18), op := (Op.call { callee := (Callee.value (Operand.func 87)), args := #[(Operand.tmp 17)], argTypes := #[9] }), type := 4, pos := "ref.go:18", after := #[{ on := 4, ground := Ground.data }], guard := none } : Oper)) rfl (fun K hK => ?_) AllReadyH.nil
              go_simp
              go_at_call 87; refine (c_rkey _ HKS.out _).mono ?_; rintro e w_ ⟨rfl, rfl⟩; (try rw [hkey])
              go_wp2_with fail
              clear hHeld
              refine hK.out _ _ ?_ (fun hHeld => ?_)
              · (try dsimp only); exact ⟨HYV.out _ HP.out.below, HPV.out _ HP.out.below⟩
              clear hK K
              try simp only [Act.put, List.setIfInBounds_toArray, List.set_cons_zero, List.set_cons_succ]
              refine wpAnyH_take (i := 6) (oi := ({ dst := (some 19), op := (Op.unOp UnOp.not 4 (Operand.tmp 18)), type := 4, pos := "ref.go:18", after := #[{ on := 5, ground := Ground.data }], guard := none } : Oper)) (v := ?_) rfl (by kernel_rfl) (by kernel_rfl) (by kernel_rfl) (fun _ _ _ h => h) (Or.inl ⟨by rfl, ?_⟩) hHeld ?_
              rotate_left
              · intro w_ hSw; (try dsimp only at hSw); obtain ⟨s1_, s2_⟩ := hSw; (try obtain ⟨s1_, s3_⟩ := s1_); go_simp; try (with_reducible rfl)
              try simp only [Act.put, List.setIfInBounds_toArray, List.set_cons_zero, List.set_cons_succ]
              refine wpAnyH_take (i := 7) (oi := ({ dst := (some 20), op := (Op.move (Operand.tmp 19)), type := 4, pos := "ref.go:18", after := #[{ on := 6, ground := Ground.data }, { on := 5, ground := Ground.chain }], guard := none } : Oper)) (v := ?_) rfl (by kernel_rfl) (by kernel_rfl) (by kernel_rfl) (fun _ _ _ h => h) (Or.inl ⟨by rfl, ?_⟩) hHeld ?_
              rotate_left
              · intro w_ hSw; (try dsimp only at hSw); obtain ⟨s1_, s2_⟩ := hSw; (try obtain ⟨s1_, s3_⟩ := s1_); go_simp; try (with_reducible rfl)
              try simp only [Act.put, List.setIfInBounds_toArray, List.set_cons_zero, List.set_cons_succ]
              refine wpAnyH_take (i := 8) (oi := ({ dst := (some 21), op := (Op.move (Operand.tmp 0)), type := 24, pos := "ref.go:18", after := #[{ on := 7, ground := Ground.guard }], guard := (some (7, false)) } : Oper)) (v := ?_) rfl (by kernel_rfl) (by kernel_rfl) (by kernel_rfl) (fun _ _ _ h => h) (Or.inl ⟨by rfl, ?_⟩) hHeld ?_
              rotate_left
              · intro w_ hSw; (try dsimp only at hSw); obtain ⟨s1_, s2_⟩ := hSw; (try obtain ⟨s1_, s3_⟩ := s1_); go_simp; try (with_reducible rfl)
              try simp only [Act.put, List.setIfInBounds_toArray, List.set_cons_zero, List.set_cons_succ]
              refine wpAnyH_take (i := 9) (oi := ({ dst := (some 22), op := (Op.move (Operand.tmp 3)), type := 3, pos := "ref.go:18", after := #[{ on := 7, ground := Ground.guard }], guard := (some (7, false)) } : Oper)) (v := ?_) rfl (by kernel_rfl) (by kernel_rfl) (by kernel_rfl) (fun _ _ _ h => h) (Or.inl ⟨by rfl, ?_⟩) hHeld ?_
              rotate_left
              · intro w_ hSw; (try dsimp only at hSw); obtain ⟨s1_, s2_⟩ := hSw; (try obtain ⟨s1_, s3_⟩ := s1_); go_simp; try (with_reducible rfl)
              try simp only [Act.put, List.setIfInBounds_toArray, List.set_cons_zero, List.set_cons_succ]
              refine wpAnyH_take (i := 10) (oi := ({ dst := (some 23), op := (Op.indexAddr 24 (Operand.tmp 21) (Operand.tmp 22)), type := 0, pos := "ref.go:18", after := #[{ on := 8, ground := Ground.data }, { on := 9, ground := Ground.data }, { on := 7, ground := Ground.guard }], guard := (some (7, false)) } : Oper)) (v := ?_) rfl (by kernel_rfl) (by kernel_rfl) (by kernel_rfl) (fun _ _ _ h => h) (Or.inl ⟨by rfl, ?_⟩) hHeld ?_
              rotate_left
              · intro w_ hSw; (try dsimp only at hSw); obtain ⟨s1_, s2_⟩ := hSw; (try obtain ⟨s1_, s3_⟩ := s1_); go_simp; try (with_reducible rfl)
              try simp only [Act.put, List.setIfInBounds_toArray, List.set_cons_zero, List.set_cons_succ]
              refine wpAnyH_take (i := 11) (oi := ({ dst := (some 24), op := (Op.fieldAddr 55 (Operand.tmp 23) 1), type := 0, pos := "ref.go:18", after := #[{ on := 10, ground := Ground.data }, { on := 7, ground := Ground.guard }], guard := (some (7, false)) } : Oper)) (v := ?_) rfl (by kernel_rfl) (by kernel_rfl) (by kernel_rfl) (fun _ _ _ h => h) (Or.inl ⟨by rfl, ?_⟩) hHeld ?_
              rotate_left
              · intro w_ hSw; (try dsimp only at hSw); obtain ⟨s1_, s2_⟩ := hSw; (try obtain ⟨s1_, s3_⟩ := s1_); go_simp; try (with_reducible rfl)
              try simp only [Act.put, List.setIfInBounds_toArray, List.set_cons_zero, List.set_cons_succ]
              refine wpAnyH_take (i := 12) (oi := ({ dst := (some 25), op := (Op.load 9 (Operand.tmp 24)), type := 9, pos := "ref.go:18", after := #[{ on := 11, ground := Ground.data }, { on := 7, ground := Ground.guard }], guard := (some (7, false)) } : Oper)) (v := ?_) rfl (by kernel_rfl) (by kernel_rfl) (by kernel_rfl) (fun _ _ _ h => h) (Or.inl ⟨by rfl, ?_⟩) hHeld ?_
              rotate_left
              · intro w_ hSw; (try dsimp only at hSw); obtain ⟨s1_, s2_⟩ := hSw; (try obtain ⟨s1_, s3_⟩ := s1_); go_simp; try (with_reducible rfl)
              try simp only [Act.put, List.setIfInBounds_toArray, List.set_cons_zero, List.set_cons_succ]
              refine wpAnyH_take (i := 13) (oi := ({ dst := (some 26), op := (Op.call { callee := (Callee.builtin Builtin.len), args := #[(Operand.tmp 25)], argTypes := #[9] }), type := 3, pos := "ref.go:18", after := #[{ on := 12, ground := Ground.data }, { on := 7, ground := Ground.guard }], guard := (some (7, false)) } : Oper)) (v := ?_) rfl (by kernel_rfl) (by kernel_rfl) (by kernel_rfl) (fun _ _ _ h => h) (Or.inl ⟨by rfl, ?_⟩) hHeld ?_
              rotate_left
              · intro w_ hSw; (try dsimp only at hSw); obtain ⟨s1_, s2_⟩ := hSw; (try obtain ⟨s1_, s3_⟩ := s1_); go_simp; try (with_reducible rfl)
              try simp only [Act.put, List.setIfInBounds_toArray, List.set_cons_zero, List.set_cons_succ]
              refine wpAnyH_take (i := 14) (oi := ({ dst := (some 27), op := (Op.binOp BinOp.gtr 3 (Operand.tmp 26) (Operand.const (Value.int IntKind.i64 64)) 3), type := 4, pos := "ref.go:18", after := #[{ on := 13, ground := Ground.data }, { on := 7, ground := Ground.guard }], guard := (some (7, false)) } : Oper)) (v := ?_) rfl (by kernel_rfl) (by kernel_rfl) (by kernel_rfl) (fun _ _ _ h => h) (Or.inl ⟨by rfl, ?_⟩) hHeld ?_
              rotate_left
              · intro w_ hSw; (try dsimp only at hSw); obtain ⟨s1_, s2_⟩ := hSw; (try obtain ⟨s1_, s3_⟩ := s1_); go_simp; try (with_reducible rfl)
              try simp only [Act.put, List.setIfInBounds_toArray, List.set_cons_zero, List.set_cons_succ]
              refine wpAnyH_take (i := 15) (oi := ({ dst := (some 28), op := (Op.pick (Operand.tmp 20) (Operand.const (Value.bool true)) (Operand.tmp 27)), type := 4, pos := "ref.go:18", after := #[{ on := 7, ground := Ground.data }, { on := 14, ground := Ground.data }], guard := none } : Oper)) (v := ?_) rfl (by kernel_rfl) (by kernel_rfl) (by kernel_rfl) (fun _ _ _ h => h) (Or.inl ⟨by rfl, ?_⟩) hHeld ?_
              rotate_left
              · intro w_ hSw; (try dsimp only at hSw); obtain ⟨s1_, s2_⟩ := hSw; (try obtain ⟨s1_, s3_⟩ := s1_); go_simp; try (with_reducible rfl)
              try simp only [Act.put, List.setIfInBounds_toArray, List.set_cons_zero, List.set_cons_succ]
              refine wpAnyH_take (i := 16) (oi := ({ dst := (some 29), op := (Op.move (Operand.tmp 28)), type := 4, pos := "ref.go:18", after := #[{ on := 15, ground := Ground.data }, { on := 7, ground := Ground.chain }], guard := none } : Oper)) (v := ?_) rfl (by kernel_rfl) (by kernel_rfl) (by kernel_rfl) (fun _ _ _ h => h) (Or.inl ⟨by rfl, ?_⟩) hHeld ?_
              rotate_left
              · intro w_ hSw; (try dsimp only at hSw); obtain ⟨s1_, s2_⟩ := hSw; (try obtain ⟨s1_, s3_⟩ := s1_); go_simp; try (with_reducible rfl)
              try simp only [Act.put, List.setIfInBounds_toArray, List.set_cons_zero, List.set_cons_succ]
              refine wpAnyH_take (i := 17) (oi := ({ dst := (some 30), op := (Op.move (Operand.tmp 3)), type := 3, pos := "ref.go:18", after := #[{ on := 16, ground := Ground.guard }], guard := (some (16, false)) } : Oper)) (v := ?_) rfl (by kernel_rfl) (by kernel_rfl) (by kernel_rfl) (fun _ _ _ h => h) (Or.inl ⟨by rfl, ?_⟩) hHeld ?_
              rotate_left
              · intro w_ hSw; (try dsimp only at hSw); obtain ⟨s1_, s2_⟩ := hSw; (try obtain ⟨s1_, s3_⟩ := s1_); go_simp; try (with_reducible rfl)
              try simp only [Act.put, List.setIfInBounds_toArray, List.set_cons_zero, List.set_cons_succ]
              refine wpAnyH_take (i := 18) (oi := ({ dst := (some 31), op := (Op.binOp BinOp.gtr 3 (Operand.tmp 30) (Operand.const (Value.int IntKind.i64 0)) 3), type := 4, pos := "ref.go:18", after := #[{ on := 17, ground := Ground.data }, { on := 16, ground := Ground.guard }], guard := (some (16, false)) } : Oper)) (v := ?_) rfl (by kernel_rfl) (by kernel_rfl) (by kernel_rfl) (fun _ _ _ h => h) (Or.inl ⟨by rfl, ?_⟩) hHeld ?_
              rotate_left
              · intro w_ hSw; (try dsimp only at hSw); obtain ⟨s1_, s2_⟩ := hSw; (try obtain ⟨s1_, s3_⟩ := s1_); go_simp; try (with_reducible rfl)
              try simp only [Act.put, List.setIfInBounds_toArray, List.set_cons_zero, List.set_cons_succ]
              refine wpAnyH_take (i := 19) (oi := ({ dst := (some 32), op := (Op.move (Operand.tmp 31)), type := 4, pos := "ref.go:18", after := #[{ on := 18, ground := Ground.data }, { on := 16, ground := Ground.chain }, { on := 16, ground := Ground.guard }], guard := (some (16, false)) } : Oper)) (v := ?_) rfl (by kernel_rfl) (by kernel_rfl) (by kernel_rfl) (fun _ _ _ h => h) (Or.inl ⟨by rfl, ?_⟩) hHeld ?_
              rotate_left
              · intro w_ hSw; (try dsimp only at hSw); obtain ⟨s1_, s2_⟩ := hSw; (try obtain ⟨s1_, s3_⟩ := s1_); go_simp; try (with_reducible rfl)
              try simp only [Act.put, List.setIfInBounds_toArray, List.set_cons_zero, List.set_cons_succ]
              refine wpAnyH_take (i := 20) (oi := ({ dst := (some 33), op := (Op.move (Operand.tmp 0)), type := 24, pos := "ref.go:18", after := #[{ on := 19, ground := Ground.guard }], guard := (some (19, true)) } : Oper)) (v := ?_) rfl (by kernel_rfl) (by kernel_rfl) (by kernel_rfl) (fun _ _ _ h => h) (Or.inl ⟨by rfl, ?_⟩) hHeld ?_
              rotate_left
              · intro w_ hSw; (try dsimp only at hSw); obtain ⟨s1_, s2_⟩ := hSw; (try obtain ⟨s1_, s3_⟩ := s1_); go_simp; try (with_reducible rfl)
              try simp only [Act.put, List.setIfInBounds_toArray, List.set_cons_zero, List.set_cons_succ]
              refine wpAnyH_take (i := 21) (oi := ({ dst := (some 34), op := (Op.move (Operand.tmp 3)), type := 3, pos := "ref.go:18", after := #[{ on := 19, ground := Ground.guard }], guard := (some (19, true)) } : Oper)) (v := ?_) rfl (by kernel_rfl) (by kernel_rfl) (by kernel_rfl) (fun _ _ _ h => h) (Or.inl ⟨by rfl, ?_⟩) hHeld ?_
              rotate_left
              · intro w_ hSw; (try dsimp only at hSw); obtain ⟨s1_, s2_⟩ := hSw; (try obtain ⟨s1_, s3_⟩ := s1_); go_simp; try (with_reducible rfl)
              try simp only [Act.put, List.setIfInBounds_toArray, List.set_cons_zero, List.set_cons_succ]
              refine wpAnyH_take (i := 22) (oi := ({ dst := (some 35), op := (Op.binOp BinOp.sub 3 (Operand.tmp 34) (Operand.const (Value.int IntKind.i64 1)) 3), type := 3, pos := "ref.go:18", after := #[{ on := 21, ground := Ground.data }, { on := 19, ground := Ground.guard }], guard := (some (19, true)) } : Oper)) (v := ?_) rfl (by kernel_rfl) (by kernel_rfl) (by kernel_rfl) (fun _ _ _ h => h) (Or.inl ⟨by rfl, ?_⟩) hHeld ?_
              rotate_left
              · intro w_ hSw; (try dsimp only at hSw); obtain ⟨s1_, s2_⟩ := hSw; (try obtain ⟨s1_, s3_⟩ := s1_); go_simp; try (with_reducible rfl)
              try simp only [Act.put, List.setIfInBounds_toArray, List.set_cons_zero, List.set_cons_succ]
              refine wpAnyH_take (i := 23) (oi := ({ dst := (some 36), op := (Op.indexAddr 24 (Operand.tmp 33) (Operand.tmp 35)), type := 0, pos := "ref.go:18", after := #[{ on := 20, ground := Ground.data }, { on := 22, ground := Ground.data }, { on := 19, ground := Ground.guard }], guard := (some (19, true)) } : Oper)) (v := ?_) rfl (by kernel_rfl) (by kernel_rfl) (by kernel_rfl) (fun _ _ _ h => h) (Or.inl ⟨by rfl, ?_⟩) hHeld ?_
              rotate_left
              · intro w_ hSw; (try dsimp only at hSw); obtain ⟨s1_, s2_⟩ := hSw; (try obtain ⟨s1_, s3_⟩ := s1_); go_simp; try (with_reducible rfl)
              try simp only [Act.put, List.setIfInBounds_toArray, List.set_cons_zero, List.set_cons_succ]
              refine wpAnyH_take (i := 24) (oi := ({ dst := (some 37), op := (Op.fieldAddr 55 (Operand.tmp 36) 0), type := 0, pos := "ref.go:18", after := #[{ on := 23, ground := Ground.data }, { on := 19, ground := Ground.guard }], guard := (some (19, true)) } : Oper)) (v := ?_) rfl (by kernel_rfl) (by kernel_rfl) (by kernel_rfl) (fun _ _ _ h => h) (Or.inl ⟨by rfl, ?_⟩) hHeld ?_
              rotate_left
              · intro w_ hSw; (try dsimp only at hSw); obtain ⟨s1_, s2_⟩ := hSw; (try obtain ⟨s1_, s3_⟩ := s1_); go_simp; try (with_reducible rfl)
              try simp only [Act.put, List.setIfInBounds_toArray, List.set_cons_zero, List.set_cons_succ]
              refine wpAnyH_take (i := 25) (oi := ({ dst := (some 38), op := (Op.load 9 (Operand.tmp 37)), type := 9, pos := "ref.go:18", after := #[{ on := 24, ground := Ground.data }, { on := 19, ground := Ground.guard }], guard := (some (19, true)) } : Oper)) (v := ?_) rfl (by kernel_rfl) (by kernel_rfl) (by kernel_rfl) (fun _ _ _ h => h) (Or.inl ⟨by rfl, ?_⟩) hHeld ?_
              rotate_left
              · intro w_ hSw; (try dsimp only at hSw); obtain ⟨s1_, s2_⟩ := hSw; (try obtain ⟨s1_, s3_⟩ := s1_); go_simp; try (with_reducible rfl)
              try simp only [Act.put, List.setIfInBounds_toArray, List.set_cons_zero, List.set_cons_succ]
              refine wpAnyH_take (i := 26) (oi := ({ dst := (some 39), op := (Op.move (Operand.tmp 0)), type := 24, pos := "ref.go:18", after := #[{ on := 19, ground := Ground.guard }], guard := (some (19, true)) } : Oper)) (v := ?_) rfl (by kernel_rfl) (by kernel_rfl) (by kernel_rfl) (fun _ _ _ h => h) (Or.inl ⟨by rfl, ?_⟩) hHeld ?_
              rotate_left
              · intro w_ hSw; (try dsimp only at hSw); obtain ⟨s1_, s2_⟩ := hSw; (try obtain ⟨s1_, s3_⟩ := s1_); go_simp; try (with_reducible rfl)
              try simp only [Act.put, List.setIfInBounds_toArray, List.set_cons_zero, List.set_cons_succ]
              refine wpAnyH_take (i := 27) (oi := ({ dst := (some 40), op := (Op.move (Operand.tmp 3)), type := 3, pos := "ref.go:18", after := #[{ on := 19, ground := Ground.guard }], guard := (some (19, true)) } : Oper)) (v := ?_) rfl (by kernel_rfl) (by kernel_rfl) (by kernel_rfl) (fun _ _ _ h => h) (Or.inl ⟨by rfl, ?_⟩) hHeld ?_
              rotate_left
              · intro w_ hSw; (try dsimp only at hSw); obtain ⟨s1_, s2_⟩ := hSw; (try obtain ⟨s1_, s3_⟩ := s1_); go_simp; try (with_reducible rfl)
              try simp only [Act.put, List.setIfInBounds_toArray, List.set_cons_zero, List.set_cons_succ]
              refine wpAnyH_take (i := 28) (oi := ({ dst := (some 41), op := (Op.indexAddr 24 (Operand.tmp 39) (Operand.tmp 40)), type := 0, pos := "ref.go:18", after := #[{ on := 26, ground := Ground.data }, { on := 27, ground := Ground.data }, { on := 19, ground := Ground.guard }], guard := (some (19, true)) } : Oper)) (v := ?_) rfl (by kernel_rfl) (by kernel_rfl) (by kernel_rfl) (fun _ _ _ h => h) (Or.inl ⟨by rfl, ?_⟩) hHeld ?_
              rotate_left
              · intro w_ hSw; (try dsimp only at hSw); obtain ⟨s1_, s2_⟩ := hSw; (try obtain ⟨s1_, s3_⟩ := s1_); go_simp; try (with_reducible rfl)
              try simp only [Act.put, List.setIfInBounds_toArray, List.set_cons_zero, List.set_cons_succ]
              refine wpAnyH_take (i := 29) (oi := ({ dst := (some 42), op := (Op.fieldAddr 55 (Operand.tmp 41) 0), type := 0, pos := "ref.go:18", after := #[{ on := 28, ground := Ground.data }, { on := 19, ground := Ground.guard }], guard := (some (19, true)) } : Oper)) (v := ?_) rfl (by kernel_rfl) (by kernel_rfl) (by kernel_rfl) (fun _ _ _ h => h) (Or.inl ⟨by rfl, ?_⟩) hHeld ?_
              rotate_left
              · intro w_ hSw; (try dsimp only at hSw); obtain ⟨s1_, s2_⟩ := hSw; (try obtain ⟨s1_, s3_⟩ := s1_); go_simp; try (with_reducible rfl)
              try simp only [Act.put, List.setIfInBounds_toArray, List.set_cons_zero, List.set_cons_succ]
              refine wpAnyH_take (i := 30) (oi := ({ dst := (some 43), op := (Op.load 9 (Operand.tmp 42)), type := 9, pos := "ref.go:18", after := #[{ on := 29, ground := Ground.data }, { on := 19, ground := Ground.guard }], guard := (some (19, true)) } : Oper)) (v := ?_) rfl (by kernel_rfl) (by kernel_rfl) (by kernel_rfl) (fun _ _ _ h => h) (Or.inl ⟨by rfl, ?_⟩) hHeld ?_
              rotate_left
              · intro w_ hSw; (try dsimp only at hSw); obtain ⟨s1_, s2_⟩ := hSw; (try obtain ⟨s1_, s3_⟩ := s1_); go_simp; try (with_reducible rfl)
              try simp only [Act.put, List.setIfInBounds_toArray, List.set_cons_zero, List.set_cons_succ]
              refine wpAnyH_take (i := 31) (oi := ({ dst := (some 44), op := (Op.binOp BinOp.geq 9 (Operand.tmp 38) (Operand.tmp 43) 9), type := 4, pos := "ref.go:18", after := #[{ on := 25, ground := Ground.data }, { on := 30, ground := Ground.data }, { on := 19, ground := Ground.guard }], guard := (some (19, true)) } : Oper)) (v := ?_) rfl (by kernel_rfl) (by kernel_rfl) (by kernel_rfl) (fun _ _ _ h => h) (Or.inl ⟨by rfl, ?_⟩) hHeld ?_
              rotate_left
              · intro w_ hSw; (try dsimp only at hSw); obtain ⟨s1_, s2_⟩ := hSw; (try obtain ⟨s1_, s3_⟩ := s1_); go_simp; try (with_reducible rfl)
              try simp only [Act.put, List.setIfInBounds_toArray, List.set_cons_zero, List.set_cons_succ]
              refine wpAnyH_take (i := 32) (oi := ({ dst := (some 45), op := (Op.pick (Operand.tmp 32) (Operand.tmp 44) (Operand.const (Value.bool false))), type := 4, pos := "ref.go:18", after := #[{ on := 19, ground := Ground.data }, { on := 31, ground := Ground.data }, { on := 16, ground := Ground.guard }], guard := (some (16, false)) } : Oper)) (v := ?_) rfl (by kernel_rfl) (by kernel_rfl) (by kernel_rfl) (fun _ _ _ h => h) (Or.inl ⟨by rfl, ?_⟩) hHeld ?_
              rotate_left
              · intro w_ hSw; (try dsimp only at hSw); obtain ⟨s1_, s2_⟩ := hSw; (try obtain ⟨s1_, s3_⟩ := s1_); go_simp; try (with_reducible rfl)
              try simp only [Act.put, List.setIfInBounds_toArray, List.set_cons_zero, List.set_cons_succ]
              refine wpAnyH_take (i := 33) (oi := ({ dst := (some 46), op := (Op.pick (Operand.tmp 29) (Operand.const (Value.bool true)) (Operand.tmp 45)), type := 4, pos := "ref.go:18", after := #[{ on := 16, ground := Ground.data }, { on := 32, ground := Ground.data }], guard := none } : Oper)) (v := ?_) rfl (by kernel_rfl) (by kernel_rfl) (by kernel_rfl) (fun _ _ _ h => h) (Or.inl ⟨by rfl, ?_⟩) hHeld ?_
              rotate_left
              · intro w_ hSw; (try dsimp only at hSw); obtain ⟨s1_, s2_⟩ := hSw; (try obtain ⟨s1_, s3_⟩ := s1_); go_simp; try (with_reducible rfl)
              try simp only [Act.put, List.setIfInBounds_toArray, List.set_cons_zero, List.set_cons_succ]
              refine wpAnyH_done (by kernel_rfl) ?_ _
              have hpd := HPD.out
              go_wp2_with fail
              go_roundg (gk - 1)
              case measure => have := HK.out; have := (List.getElem?_eq_some_iff.1 HY.out).1; omega
              case rel => exact ⟨j + 1, x + 1, rfl, ⟨by have := HX.out; omega⟩, ⟨by have := HK.out; have := (List.getElem?_eq_some_iff.1 HY.out).1; omega⟩, ⟨by rw [pairsTo_succ, HG.out, HYD.out]; (try rw [hpd]); simp [pairAt, *]⟩, HP⟩
            | false =>
              refine held_named (S := (fun w' => (w'.cell? ⟨Ab, Ao + x.toNat * 2, none⟩ = some (.string y.f0) ∧ w'.cell? ⟨Ab, Ao + x.toNat * 2 + 1, none⟩ = some (.string y.f1)) ∧ w'.cell? ⟨Ab, Ao + (x.toNat - 1) * 2, none⟩ = some (.string p.f0))) (by kernel_rfl) (fun wd6 hwd6 => ?_)
              have HPn := Aside0.mk (HP.out.drewN 1)
              rw [← World.drew_is_drewN, hwd6] at HPn
              clear HP hwd6
              have HP := HPn
              clear HPn
              refine ⟨by (try dsimp only); exact ⟨HYV.out _ HP.out.below, HPV.out _ HP.out.below⟩, fun hHeld => ?_⟩
              refine wpAnyH_take (i := 0) (oi := ({ dst := (some 13), op := (Op.move (Operand.tmp 0)), type := 24, pos := "ref.go:18", after := #[], guard := none } : Oper)) (v := ?_) rfl (by kernel_rfl) (by kernel_rfl) (by kernel_rfl) (fun _ _ _ h => h) (Or.inl ⟨by rfl, ?_⟩) hHeld ?_
              rotate_left
              · intro w_ hSw; (try dsimp only at hSw); obtain ⟨s1_, s2_⟩ := hSw; (try obtain ⟨s1_, s3_⟩ := s1_); go_simp; try (with_reducible rfl)
              try simp only [Act.put, List.setIfInBounds_toArray, List.set_cons_zero, List.set_cons_succ]
              refine wpAnyH_take (i := 1) (oi := ({ dst := (some 14), op := (Op.move (Operand.tmp 3)), type := 3, pos := "ref.go:18", after := #[], guard := none } : Oper)) (v := ?_) rfl (by kernel_rfl) (by kernel_rfl) (by kernel_rfl) (fun _ _ _ h => h) (Or.inl ⟨by rfl, ?_⟩) hHeld ?_
              rotate_left
              · intro w_ hSw; (try dsimp only at hSw); obtain ⟨s1_, s2_⟩ := hSw; (try obtain ⟨s1_, s3_⟩ := s1_); go_simp; try (with_reducible rfl)
              try simp only [Act.put, List.setIfInBounds_toArray, List.set_cons_zero, List.set_cons_succ]
              refine wpAnyH_take (i := 2) (oi := ({ dst := (some 15), op := (Op.indexAddr 24 (Operand.tmp 13) (Operand.tmp 14)), type := 0, pos := "ref.go:18", after := #[{ on := 0, ground := Ground.data }, { on := 1, ground := Ground.data }], guard := none } : Oper)) (v := ?_) rfl (by kernel_rfl) (by kernel_rfl) (by kernel_rfl) (fun _ _ _ h => h) (Or.inl ⟨by rfl, ?_⟩) hHeld ?_
              rotate_left
              · intro w_ hSw; (try dsimp only at hSw); obtain ⟨s1_, s2_⟩ := hSw; (try obtain ⟨s1_, s3_⟩ := s1_); go_simp; try (with_reducible rfl)
              try simp only [Act.put, List.setIfInBounds_toArray, List.set_cons_zero, List.set_cons_succ]
              refine wpAnyH_take (i := 3) (oi := ({ dst := (some 16), op := (Op.fieldAddr 55 (Operand.tmp 15) 0), type := 0, pos := "ref.go:18", after := #[{ on := 2, ground := Ground.data }], guard := none } : Oper)) (v := ?_) rfl (by kernel_rfl) (by kernel_rfl) (by kernel_rfl) (fun _ _ _ h => h) (Or.inl ⟨by rfl, ?_⟩) hHeld ?_
              rotate_left
              · intro w_ hSw; (try dsimp only at hSw); obtain ⟨s1_, s2_⟩ := hSw; (try obtain ⟨s1_, s3_⟩ := s1_); go_simp; try (with_reducible rfl)
              try simp only [Act.put, List.setIfInBounds_toArray, List.set_cons_zero, List.set_cons_succ]
              refine wpAnyH_take (i := 4) (oi := ({ dst := (some 17), op := (Op.load 9 (Operand.tmp 16)), type := 9, pos := "ref.go:18", after := #[{ on := 3, ground := Ground.data }], guard := none } : Oper)) (v := ?_) rfl (by kernel_rfl) (by kernel_rfl) (by kernel_rfl) (fun _ _ _ h => h) (Or.inl ⟨by rfl, ?_⟩) hHeld ?_
              rotate_left
              · intro w_ hSw; (try dsimp only at hSw); obtain ⟨s1_, s2_⟩ := hSw; (try obtain ⟨s1_, s3_⟩ := s1_); go_simp; try (with_reducible rfl)
              try simp only [Act.put, List.setIfInBounds_toArray, List.set_cons_zero, List.set_cons_succ]
              refine wpAnyH_ready (rs := [5]) (by kernel_rfl) (by simp) ?_
              refine AllReadyH.cons (o := ({ dst := (some 18), op := (Op.call { callee := (Callee.value (Operand.func 87)), args := #[(Operand.tmp 17)], argTypes := #[9] }), type := 4, pos := "ref.go:18", after := #[{ on := 4, ground := Ground.data }], guard := none } : Oper)) rfl (fun K hK => ?_) AllReadyH.nil
              go_simp
              go_at_call 87; refine (c_rkey _ HKS.out _).mono ?_; rintro e w_ ⟨rfl, rfl⟩; (try rw [hkey])
              go_wp2_with fail
              clear hHeld
              refine hK.out _ _ ?_ (fun hHeld => ?_)
              · (try dsimp only); exact ⟨HYV.out _ HP.out.below, HPV.out _ HP.out.below⟩
              clear hK K
              try simp only [Act.put, List.setIfInBounds_toArray, List.set_cons_zero, List.set_cons_succ]
              refine wpAnyH_take (i := 6) (oi := ({ dst := (some 19), op := (Op.unOp UnOp.not 4 (Operand.tmp 18)), type := 4, pos := "ref.go:18", after := #[{ on := 5, ground := Ground.data }], guard := none } : Oper)) (v := ?_) rfl (by kernel_rfl) (by kernel_rfl) (by kernel_rfl) (fun _ _ _ h => h) (Or.inl ⟨by rfl, ?_⟩) hHeld ?_
              rotate_left
              · intro w_ hSw; (try dsimp only at hSw); obtain ⟨s1_, s2_⟩ := hSw; (try obtain ⟨s1_, s3_⟩ := s1_); go_simp; try (with_reducible rfl)
              try simp only [Act.put, List.setIfInBounds_toArray, List.set_cons_zero, List.set_cons_succ]
              refine wpAnyH_take (i := 7) (oi := ({ dst := (some 20), op := (Op.move (Operand.tmp 19)), type := 4, pos := "ref.go:18", after := #[{ on := 6, ground := Ground.data }, { on := 5, ground := Ground.chain }], guard := none } : Oper)) (v := ?_) rfl (by kernel_rfl) (by kernel_rfl) (by kernel_rfl) (fun _ _ _ h => h) (Or.inl ⟨by rfl, ?_⟩) hHeld ?_
              rotate_left
              · intro w_ hSw; (try dsimp only at hSw); obtain ⟨s1_, s2_⟩ := hSw; (try obtain ⟨s1_, s3_⟩ := s1_); go_simp; try (with_reducible rfl)
              try simp only [Act.put, List.setIfInBounds_toArray, List.set_cons_zero, List.set_cons_succ]
              refine wpAnyH_take (i := 8) (oi := ({ dst := (some 21), op := (Op.move (Operand.tmp 0)), type := 24, pos := "ref.go:18", after := #[{ on := 7, ground := Ground.guard }], guard := (some (7, false)) } : Oper)) (v := ?_) rfl (by kernel_rfl) (by kernel_rfl) (by kernel_rfl) (fun _ _ _ h => h) (Or.inl ⟨by rfl, ?_⟩) hHeld ?_
              rotate_left
              · intro w_ hSw; (try dsimp only at hSw); obtain ⟨s1_, s2_⟩ := hSw; (try obtain ⟨s1_, s3_⟩ := s1_); go_simp; try (with_reducible rfl)
              try simp only [Act.put, List.setIfInBounds_toArray, List.set_cons_zero, List.set_cons_succ]
              refine wpAnyH_take (i := 9) (oi := ({ dst := (some 22), op := (Op.move (Operand.tmp 3)), type := 3, pos := "ref.go:18", after := #[{ on := 7, ground := Ground.guard }], guard := (some (7, false)) } : Oper)) (v := ?_) rfl (by kernel_rfl) (by kernel_rfl) (by kernel_rfl) (fun _ _ _ h => h) (Or.inl ⟨by rfl, ?_⟩) hHeld ?_
              rotate_left
              · intro w_ hSw; (try dsimp only at hSw); obtain ⟨s1_, s2_⟩ := hSw; (try obtain ⟨s1_, s3_⟩ := s1_); go_simp; try (with_reducible rfl)
              try simp only [Act.put, List.setIfInBounds_toArray, List.set_cons_zero, List.set_cons_succ]
              refine wpAnyH_take (i := 10) (oi := ({ dst := (some 23), op := (Op.indexAddr 24 (Operand.tmp 21) (Operand.tmp 22)), type := 0, pos := "ref.go:18", after := #[{ on := 8, ground := Ground.data }, { on := 9, ground := Ground.data }, { on := 7, ground := Ground.guard }], guard := (some (7, false)) } : Oper)) (v := ?_) rfl (by kernel_rfl) (by kernel_rfl) (by kernel_rfl) (fun _ _ _ h => h) (Or.inl ⟨by rfl, ?_⟩) hHeld ?_
              rotate_left
              · intro w_ hSw; (try dsimp only at hSw); obtain ⟨s1_, s2_⟩ := hSw; (try obtain ⟨s1_, s3_⟩ := s1_); go_simp; try (with_reducible rfl)
              try simp only [Act.put, List.setIfInBounds_toArray, List.set_cons_zero, List.set_cons_succ]
              refine wpAnyH_take (i := 11) (oi := ({ dst := (some 24), op := (Op.fieldAddr 55 (Operand.tmp 23) 1), type := 0, pos := "ref.go:18", after := #[{ on := 10, ground := Ground.data }, { on := 7, ground := Ground.guard }], guard := (some (7, false)) } : Oper)) (v := ?_) rfl (by kernel_rfl) (by kernel_rfl) (by kernel_rfl) (fun _ _ _ h => h) (Or.inl ⟨by rfl, ?_⟩) hHeld ?_
              rotate_left
              · intro w_ hSw; (try dsimp only at hSw); obtain ⟨s1_, s2_⟩ := hSw; (try obtain ⟨s1_, s3_⟩ := s1_); go_simp; try (with_reducible rfl)
              try simp only [Act.put, List.setIfInBounds_toArray, List.set_cons_zero, List.set_cons_succ]
              refine wpAnyH_take (i := 12) (oi := ({ dst := (some 25), op := (Op.load 9 (Operand.tmp 24)), type := 9, pos := "ref.go:18", after := #[{ on := 11, ground := Ground.data }, { on := 7, ground := Ground.guard }], guard := (some (7, false)) } : Oper)) (v := ?_) rfl (by kernel_rfl) (by kernel_rfl) (by kernel_rfl) (fun _ _ _ h => h) (Or.inl ⟨by rfl, ?_⟩) hHeld ?_
              rotate_left
              · intro w_ hSw; (try dsimp only at hSw); obtain ⟨s1_, s2_⟩ := hSw; (try obtain ⟨s1_, s3_⟩ := s1_); go_simp; try (with_reducible rfl)
              try simp only [Act.put, List.setIfInBounds_toArray, List.set_cons_zero, List.set_cons_succ]
              refine wpAnyH_take (i := 13) (oi := ({ dst := (some 26), op := (Op.call { callee := (Callee.builtin Builtin.len), args := #[(Operand.tmp 25)], argTypes := #[9] }), type := 3, pos := "ref.go:18", after := #[{ on := 12, ground := Ground.data }, { on := 7, ground := Ground.guard }], guard := (some (7, false)) } : Oper)) (v := ?_) rfl (by kernel_rfl) (by kernel_rfl) (by kernel_rfl) (fun _ _ _ h => h) (Or.inl ⟨by rfl, ?_⟩) hHeld ?_
              rotate_left
              · intro w_ hSw; (try dsimp only at hSw); obtain ⟨s1_, s2_⟩ := hSw; (try obtain ⟨s1_, s3_⟩ := s1_); go_simp; try (with_reducible rfl)
              try simp only [Act.put, List.setIfInBounds_toArray, List.set_cons_zero, List.set_cons_succ]
              refine wpAnyH_take (i := 14) (oi := ({ dst := (some 27), op := (Op.binOp BinOp.gtr 3 (Operand.tmp 26) (Operand.const (Value.int IntKind.i64 64)) 3), type := 4, pos := "ref.go:18", after := #[{ on := 13, ground := Ground.data }, { on := 7, ground := Ground.guard }], guard := (some (7, false)) } : Oper)) (v := ?_) rfl (by kernel_rfl) (by kernel_rfl) (by kernel_rfl) (fun _ _ _ h => h) (Or.inl ⟨by rfl, ?_⟩) hHeld ?_
              rotate_left
              · intro w_ hSw; (try dsimp only at hSw); obtain ⟨s1_, s2_⟩ := hSw; (try obtain ⟨s1_, s3_⟩ := s1_); go_simp; try (with_reducible rfl)
              try simp only [Act.put, List.setIfInBounds_toArray, List.set_cons_zero, List.set_cons_succ]
              refine wpAnyH_take (i := 15) (oi := ({ dst := (some 28), op := (Op.pick (Operand.tmp 20) (Operand.const (Value.bool true)) (Operand.tmp 27)), type := 4, pos := "ref.go:18", after := #[{ on := 7, ground := Ground.data }, { on := 14, ground := Ground.data }], guard := none } : Oper)) (v := ?_) rfl (by kernel_rfl) (by kernel_rfl) (by kernel_rfl) (fun _ _ _ h => h) (Or.inl ⟨by rfl, ?_⟩) hHeld ?_
              rotate_left
              · intro w_ hSw; (try dsimp only at hSw); obtain ⟨s1_, s2_⟩ := hSw; (try obtain ⟨s1_, s3_⟩ := s1_); go_simp; try (with_reducible rfl)
              try simp only [Act.put, List.setIfInBounds_toArray, List.set_cons_zero, List.set_cons_succ]
              refine wpAnyH_take (i := 16) (oi := ({ dst := (some 29), op := (Op.move (Operand.tmp 28)), type := 4, pos := "ref.go:18", after := #[{ on := 15, ground := Ground.data }, { on := 7, ground := Ground.chain }], guard := none } : Oper)) (v := ?_) rfl (by kernel_rfl) (by kernel_rfl) (by kernel_rfl) (fun _ _ _ h => h) (Or.inl ⟨by rfl, ?_⟩) hHeld ?_
              rotate_left
              · intro w_ hSw; (try dsimp only at hSw); obtain ⟨s1_, s2_⟩ := hSw; (try obtain ⟨s1_, s3_⟩ := s1_); go_simp; try (with_reducible rfl)
              try simp only [Act.put, List.setIfInBounds_toArray, List.set_cons_zero, List.set_cons_succ]
              refine wpAnyH_take (i := 17) (oi := ({ dst := (some 30), op := (Op.move (Operand.tmp 3)), type := 3, pos := "ref.go:18", after := #[{ on := 16, ground := Ground.guard }], guard := (some (16, false)) } : Oper)) (v := ?_) rfl (by kernel_rfl) (by kernel_rfl) (by kernel_rfl) (fun _ _ _ h => h) (Or.inl ⟨by rfl, ?_⟩) hHeld ?_
              rotate_left
              · intro w_ hSw; (try dsimp only at hSw); obtain ⟨s1_, s2_⟩ := hSw; (try obtain ⟨s1_, s3_⟩ := s1_); go_simp; try (with_reducible rfl)
              try simp only [Act.put, List.setIfInBounds_toArray, List.set_cons_zero, List.set_cons_succ]
              refine wpAnyH_take (i := 18) (oi := ({ dst := (some 31), op := (Op.binOp BinOp.gtr 3 (Operand.tmp 30) (Operand.const (Value.int IntKind.i64 0)) 3), type := 4, pos := "ref.go:18", after := #[{ on := 17, ground := Ground.data }, { on := 16, ground := Ground.guard }], guard := (some (16, false)) } : Oper)) (v := ?_) rfl (by kernel_rfl) (by kernel_rfl) (by kernel_rfl) (fun _ _ _ h => h) (Or.inl ⟨by rfl, ?_⟩) hHeld ?_
              rotate_left
              · intro w_ hSw; (try dsimp only at hSw); obtain ⟨s1_, s2_⟩ := hSw; (try obtain ⟨s1_, s3_⟩ := s1_); go_simp; try (with_reducible rfl)
              try simp only [Act.put, List.setIfInBounds_toArray, List.set_cons_zero, List.set_cons_succ]
              refine wpAnyH_take (i := 19) (oi := ({ dst := (some 32), op := (Op.move (Operand.tmp 31)), type := 4, pos := "ref.go:18", after := #[{ on := 18, ground := Ground.data }, { on := 16, ground := Ground.chain }, { on := 16, ground := Ground.guard }], guard := (some (16, false)) } : Oper)) (v := ?_) rfl (by kernel_rfl) (by kernel_rfl) (by kernel_rfl) (fun _ _ _ h => h) (Or.inl ⟨by rfl, ?_⟩) hHeld ?_
              rotate_left
              · intro w_ hSw; (try dsimp only at hSw); obtain ⟨s1_, s2_⟩ := hSw; (try obtain ⟨s1_, s3_⟩ := s1_); go_simp; try (with_reducible rfl)
              try simp only [Act.put, List.setIfInBounds_toArray, List.set_cons_zero, List.set_cons_succ]
              refine wpAnyH_take (i := 20) (oi := ({ dst := (some 33), op := (Op.move (Operand.tmp 0)), type := 24, pos := "ref.go:18", after := #[{ on := 19, ground := Ground.guard }], guard := (some (19, true)) } : Oper)) (v := ?_) rfl (by kernel_rfl) (by kernel_rfl) (by kernel_rfl) (fun _ _ _ h => h) (Or.inl ⟨by rfl, ?_⟩) hHeld ?_
              rotate_left
              · intro w_ hSw; (try dsimp only at hSw); obtain ⟨s1_, s2_⟩ := hSw; (try obtain ⟨s1_, s3_⟩ := s1_); go_simp; try (with_reducible rfl)
              try simp only [Act.put, List.setIfInBounds_toArray, List.set_cons_zero, List.set_cons_succ]
              refine wpAnyH_take (i := 21) (oi := ({ dst := (some 34), op := (Op.move (Operand.tmp 3)), type := 3, pos := "ref.go:18", after := #[{ on := 19, ground := Ground.guard }], guard := (some (19, true)) } : Oper)) (v := ?_) rfl (by kernel_rfl) (by kernel_rfl) (by kernel_rfl) (fun _ _ _ h => h) (Or.inl ⟨by rfl, ?_⟩) hHeld ?_
              rotate_left
              · intro w_ hSw; (try dsimp only at hSw); obtain ⟨s1_, s2_⟩ := hSw; (try obtain ⟨s1_, s3_⟩ := s1_); go_simp; try (with_reducible rfl)
              try simp only [Act.put, List.setIfInBounds_toArray, List.set_cons_zero, List.set_cons_succ]
              refine wpAnyH_take (i := 22) (oi := ({ dst := (some 35), op := (Op.binOp BinOp.sub 3 (Operand.tmp 34) (Operand.const (Value.int IntKind.i64 1)) 3), type := 3, pos := "ref.go:18", after := #[{ on := 21, ground := Ground.data }, { on := 19, ground := Ground.guard }], guard := (some (19, true)) } : Oper)) (v := ?_) rfl (by kernel_rfl) (by kernel_rfl) (by kernel_rfl) (fun _ _ _ h => h) (Or.inl ⟨by rfl, ?_⟩) hHeld ?_
              rotate_left
              · intro w_ hSw; (try dsimp only at hSw); obtain ⟨s1_, s2_⟩ := hSw; (try obtain ⟨s1_, s3_⟩ := s1_); go_simp; try (with_reducible rfl)
              try simp only [Act.put, List.setIfInBounds_toArray, List.set_cons_zero, List.set_cons_succ]
              refine wpAnyH_take (i := 23) (oi := ({ dst := (some 36), op := (Op.indexAddr 24 (Operand.tmp 33) (Operand.tmp 35)), type := 0, pos := "ref.go:18", after := #[{ on := 20, ground := Ground.data }, { on := 22, ground := Ground.data }, { on := 19, ground := Ground.guard }], guard := (some (19, true)) } : Oper)) (v := ?_) rfl (by kernel_rfl) (by kernel_rfl) (by kernel_rfl) (fun _ _ _ h => h) (Or.inl ⟨by rfl, ?_⟩) hHeld ?_
              rotate_left
              · intro w_ hSw; (try dsimp only at hSw); obtain ⟨s1_, s2_⟩ := hSw; (try obtain ⟨s1_, s3_⟩ := s1_); go_simp; try (with_reducible rfl)
              try simp only [Act.put, List.setIfInBounds_toArray, List.set_cons_zero, List.set_cons_succ]
              refine wpAnyH_take (i := 24) (oi := ({ dst := (some 37), op := (Op.fieldAddr 55 (Operand.tmp 36) 0), type := 0, pos := "ref.go:18", after := #[{ on := 23, ground := Ground.data }, { on := 19, ground := Ground.guard }], guard := (some (19, true)) } : Oper)) (v := ?_) rfl (by kernel_rfl) (by kernel_rfl) (by kernel_rfl) (fun _ _ _ h => h) (Or.inl ⟨by rfl, ?_⟩) hHeld ?_
              rotate_left
              · intro w_ hSw; (try dsimp only at hSw); obtain ⟨s1_, s2_⟩ := hSw; (try obtain ⟨s1_, s3_⟩ := s1_); go_simp; try (with_reducible rfl)
              try simp only [Act.put, List.setIfInBounds_toArray, List.set_cons_zero, List.set_cons_succ]
              refine wpAnyH_take (i := 25) (oi := ({ dst := (some 38), op := (Op.load 9 (Operand.tmp 37)), type := 9, pos := "ref.go:18", after := #[{ on := 24, ground := Ground.data }, { on := 19, ground := Ground.guard }], guard := (some (19, true)) } : Oper)) (v := ?_) rfl (by kernel_rfl) (by kernel_rfl) (by kernel_rfl) (fun _ _ _ h => h) (Or.inl ⟨by rfl, ?_⟩) hHeld ?_
              rotate_left
              · intro w_ hSw; (try dsimp only at hSw); obtain ⟨s1_, s2_⟩ := hSw; (try obtain ⟨s1_, s3_⟩ := s1_); go_simp; try (with_reducible rfl)
              try simp only [Act.put, List.setIfInBounds_toArray, List.set_cons_zero, List.set_cons_succ]
              refine wpAnyH_take (i := 26) (oi := ({ dst := (some 39), op := (Op.move (Operand.tmp 0)), type := 24, pos := "ref.go:18", after := #[{ on := 19, ground := Ground.guard }], guard := (some (19, true)) } : Oper)) (v := ?_) rfl (by kernel_rfl) (by kernel_rfl) (by kernel_rfl) (fun _ _ _ h => h) (Or.inl ⟨by rfl, ?_⟩) hHeld ?_
              rotate_left
              · intro w_ hSw; (try dsimp only at hSw); obtain ⟨s1_, s2_⟩ := hSw; (try obtain ⟨s1_, s3_⟩ := s1_); go_simp; try (with_reducible rfl)
              try simp only [Act.put, List.setIfInBounds_toArray, List.set_cons_zero, List.set_cons_succ]
              refine wpAnyH_take (i := 27) (oi := ({ dst := (some 40), op := (Op.move (Operand.tmp 3)), type := 3, pos := "ref.go:18", after := #[{ on := 19, ground := Ground.guard }], guard := (some (19, true)) } : Oper)) (v := ?_) rfl (by kernel_rfl) (by kernel_rfl) (by kernel_rfl) (fun _ _ _ h => h) (Or.inl ⟨by rfl, ?_⟩) hHeld ?_
              rotate_left
              · intro w_ hSw; (try dsimp only at hSw); obtain ⟨s1_, s2_⟩ := hSw; (try obtain ⟨s1_, s3_⟩ := s1_); go_simp; try (with_reducible rfl)
              try simp only [Act.put, List.setIfInBounds_toArray, List.set_cons_zero, List.set_cons_succ]
              refine wpAnyH_take (i := 28) (oi := ({ dst := (some 41), op := (Op.indexAddr 24 (Operand.tmp 39) (Operand.tmp 40)), type := 0, pos := "ref.go:18", after := #[{ on := 26, ground := Ground.data }, { on := 27, ground := Ground.data }, { on := 19, ground := Ground.guard }], guard := (some (19, true)) } : Oper)) (v := ?_) rfl (by kernel_rfl) (by kernel_rfl) (by kernel_rfl) (fun _ _ _ h => h) (Or.inl ⟨by rfl, ?_⟩) hHeld ?_
              rotate_left
              · intro w_ hSw; (try dsimp only at hSw); obtain ⟨s1_, s2_⟩ := hSw; (try obtain ⟨s1_, s3_⟩ := s1_); go_simp; try (with_reducible rfl)
              try simp only [Act.put, List.setIfInBounds_toArray, List.set_cons_zero, List.set_cons_succ]
              refine wpAnyH_take (i := 29) (oi := ({ dst := (some 42), op := (Op.fieldAddr 55 (Operand.tmp 41) 0), type := 0, pos := "ref.go:18", after := #[{ on := 28, ground := Ground.data }, { on := 19, ground := Ground.guard }], guard := (some (19, true)) } : Oper)) (v := ?_) rfl (by kernel_rfl) (by kernel_rfl) (by kernel_rfl) (fun _ _ _ h => h) (Or.inl ⟨by rfl, ?_⟩) hHeld ?_
              rotate_left
              · intro w_ hSw; (try dsimp only at hSw); obtain ⟨s1_, s2_⟩ := hSw; (try obtain ⟨s1_, s3_⟩ := s1_); go_simp; try (with_reducible rfl)
              try simp only [Act.put, List.setIfInBounds_toArray, List.set_cons_zero, List.set_cons_succ]
              refine wpAnyH_take (i := 30) (oi := ({ dst := (some 43), op := (Op.load 9 (Operand.tmp 42)), type := 9, pos := "ref.go:18", after := #[{ on := 29, ground := Ground.data }, { on := 19, ground := Ground.guard }], guard := (some (19, true)) } : Oper)) (v := ?_) rfl (by kernel_rfl) (by kernel_rfl) (by kernel_rfl) (fun _ _ _ h => h) (Or.inl ⟨by rfl, ?_⟩) hHeld ?_
              rotate_left
              · intro w_ hSw; (try dsimp only at hSw); obtain ⟨s1_, s2_⟩ := hSw; (try obtain ⟨s1_, s3_⟩ := s1_); go_simp; try (with_reducible rfl)
              try simp only [Act.put, List.setIfInBounds_toArray, List.set_cons_zero, List.set_cons_succ]
              refine wpAnyH_take (i := 31) (oi := ({ dst := (some 44), op := (Op.binOp BinOp.geq 9 (Operand.tmp 38) (Operand.tmp 43) 9), type := 4, pos := "ref.go:18", after := #[{ on := 25, ground := Ground.data }, { on := 30, ground := Ground.data }, { on := 19, ground := Ground.guard }], guard := (some (19, true)) } : Oper)) (v := ?_) rfl (by kernel_rfl) (by kernel_rfl) (by kernel_rfl) (fun _ _ _ h => h) (Or.inl ⟨by rfl, ?_⟩) hHeld ?_
              rotate_left
              · intro w_ hSw; (try dsimp only at hSw); obtain ⟨s1_, s2_⟩ := hSw; (try obtain ⟨s1_, s3_⟩ := s1_); go_simp; try (with_reducible rfl)
              try simp only [Act.put, List.setIfInBounds_toArray, List.set_cons_zero, List.set_cons_succ]
              refine wpAnyH_take (i := 32) (oi := ({ dst := (some 45), op := (Op.pick (Operand.tmp 32) (Operand.tmp 44) (Operand.const (Value.bool false))), type := 4, pos := "ref.go:18", after := #[{ on := 19, ground := Ground.data }, { on := 31, ground := Ground.data }, { on := 16, ground := Ground.guard }], guard := (some (16, false)) } : Oper)) (v := ?_) rfl (by kernel_rfl) (by kernel_rfl) (by kernel_rfl) (fun _ _ _ h => h) (Or.inl ⟨by rfl, ?_⟩) hHeld ?_
              rotate_left
              · intro w_ hSw; (try dsimp only at hSw); obtain ⟨s1_, s2_⟩ := hSw; (try obtain ⟨s1_, s3_⟩ := s1_); go_simp; try (with_reducible rfl)
              try simp only [Act.put, List.setIfInBounds_toArray, List.set_cons_zero, List.set_cons_succ]
              refine wpAnyH_take (i := 33) (oi := ({ dst := (some 46), op := (Op.pick (Operand.tmp 29) (Operand.const (Value.bool true)) (Operand.tmp 45)), type := 4, pos := "ref.go:18", after := #[{ on := 16, ground := Ground.data }, { on := 32, ground := Ground.data }], guard := none } : Oper)) (v := ?_) rfl (by kernel_rfl) (by kernel_rfl) (by kernel_rfl) (fun _ _ _ h => h) (Or.inl ⟨by rfl, ?_⟩) hHeld ?_
              rotate_left
              · intro w_ hSw; (try dsimp only at hSw); obtain ⟨s1_, s2_⟩ := hSw; (try obtain ⟨s1_, s3_⟩ := s1_); go_simp; try (with_reducible rfl)
              try simp only [Act.put, List.setIfInBounds_toArray, List.set_cons_zero, List.set_cons_succ]
              refine wpAnyH_done (by kernel_rfl) ?_ _
              have hpd := HPD.out
              go_wp2_with fail
              go_ret
              exact ⟨by rw [HBAD.out (by rw [hpd]; simp [*])]; rfl, HP.out.below⟩
      · have hkey : keyOk y.f0 = false := by simpa using ck
        clear ck hx c1
        refine held_named (S := (fun w' => w'.cell? ⟨Ab, Ao + x.toNat * 2, none⟩ = some (.string y.f0) ∧ w'.cell? ⟨Ab, Ao + x.toNat * 2 + 1, none⟩ = some (.string y.f1))) (by kernel_rfl) (fun wd6 hwd6 => ?_)
        have HPn := Aside0.mk (HP.out.drewN 1)
        rw [← World.drew_is_drewN, hwd6] at HPn
        clear HP hwd6
        have HP := HPn
        clear HPn
        refine ⟨by (try dsimp only); exact HYV.out _ HP.out.below, fun hHeld => ?_⟩
        refine wpAnyH_take (i := 0) (oi := ({ dst := (some 13), op := (Op.move (Operand.tmp 0)), type := 24, pos := "ref.go:18", after := #[], guard := none } : Oper)) (v := ?_) rfl (by kernel_rfl) (by kernel_rfl) (by kernel_rfl) (fun _ _ _ h => h) (Or.inl ⟨by rfl, ?_⟩) hHeld ?_
        rotate_left
        · intro w_ hSw; (try dsimp only at hSw); obtain ⟨s1_, s2_⟩ := hSw; (try obtain ⟨s1_, s3_⟩ := s1_); go_simp; try (with_reducible rfl)
        try simp only [Act.put, List.setIfInBounds_toArray, List.set_cons_zero, List.set_cons_succ]
        refine wpAnyH_take (i := 1) (oi := ({ dst := (some 14), op := (Op.move (Operand.tmp 3)), type := 3, pos := "ref.go:18", after := #[], guard := none } : Oper)) (v := ?_) rfl (by kernel_rfl) (by kernel_rfl) (by kernel_rfl) (fun _ _ _ h => h) (Or.inl ⟨by rfl, ?_⟩) hHeld ?_
        rotate_left
        · intro w_ hSw; (try dsimp only at hSw); obtain ⟨s1_, s2_⟩ := hSw; (try obtain ⟨s1_, s3_⟩ := s1_); go_simp; try (with_reducible rfl)
        try simp only [Act.put, List.setIfInBounds_toArray, List.set_cons_zero, List.set_cons_succ]
        refine wpAnyH_take (i := 2) (oi := ({ dst := (some 15), op := (Op.indexAddr 24 (Operand.tmp 13) (Operand.tmp 14)), type := 0, pos := "ref.go:18", after := #[{ on := 0, ground := Ground.data }, { on := 1, ground := Ground.data }], guard := none } : Oper)) (v := ?_) rfl (by kernel_rfl) (by kernel_rfl) (by kernel_rfl) (fun _ _ _ h => h) (Or.inl ⟨by rfl, ?_⟩) hHeld ?_
        rotate_left
        · intro w_ hSw; (try dsimp only at hSw); obtain ⟨s1_, s2_⟩ := hSw; (try obtain ⟨s1_, s3_⟩ := s1_); go_simp; try (with_reducible rfl)
        try simp only [Act.put, List.setIfInBounds_toArray, List.set_cons_zero, List.set_cons_succ]
        refine wpAnyH_take (i := 3) (oi := ({ dst := (some 16), op := (Op.fieldAddr 55 (Operand.tmp 15) 0), type := 0, pos := "ref.go:18", after := #[{ on := 2, ground := Ground.data }], guard := none } : Oper)) (v := ?_) rfl (by kernel_rfl) (by kernel_rfl) (by kernel_rfl) (fun _ _ _ h => h) (Or.inl ⟨by rfl, ?_⟩) hHeld ?_
        rotate_left
        · intro w_ hSw; (try dsimp only at hSw); obtain ⟨s1_, s2_⟩ := hSw; (try obtain ⟨s1_, s3_⟩ := s1_); go_simp; try (with_reducible rfl)
        try simp only [Act.put, List.setIfInBounds_toArray, List.set_cons_zero, List.set_cons_succ]
        refine wpAnyH_take (i := 4) (oi := ({ dst := (some 17), op := (Op.load 9 (Operand.tmp 16)), type := 9, pos := "ref.go:18", after := #[{ on := 3, ground := Ground.data }], guard := none } : Oper)) (v := ?_) rfl (by kernel_rfl) (by kernel_rfl) (by kernel_rfl) (fun _ _ _ h => h) (Or.inl ⟨by rfl, ?_⟩) hHeld ?_
        rotate_left
        · intro w_ hSw; (try dsimp only at hSw); obtain ⟨s1_, s2_⟩ := hSw; (try obtain ⟨s1_, s3_⟩ := s1_); go_simp; try (with_reducible rfl)
        try simp only [Act.put, List.setIfInBounds_toArray, List.set_cons_zero, List.set_cons_succ]
        refine wpAnyH_ready (rs := [5]) (by kernel_rfl) (by simp) ?_
        refine AllReadyH.cons (o := ({ dst := (some 18), op := (Op.call { callee := (Callee.value (Operand.func 87)), args := #[(Operand.tmp 17)], argTypes := #[9] }), type := 4, pos := "ref.go:18", after := #[{ on := 4, ground := Ground.data }], guard := none } : Oper)) rfl (fun K hK => ?_) AllReadyH.nil
        go_simp
        go_at_call 87; refine (c_rkey _ HKS.out _).mono ?_; rintro e w_ ⟨rfl, rfl⟩; (try rw [hkey])
        go_wp2_with fail
        clear hHeld
        refine hK.out _ _ ?_ (fun hHeld => ?_)
        · (try dsimp only); exact HYV.out _ HP.out.below
        clear hK K
        try simp only [Act.put, List.setIfInBounds_toArray, List.set_cons_zero, List.set_cons_succ]
        refine wpAnyH_take (i := 6) (oi := ({ dst := (some 19), op := (Op.unOp UnOp.not 4 (Operand.tmp 18)), type := 4, pos := "ref.go:18", after := #[{ on := 5, ground := Ground.data }], guard := none } : Oper)) (v := ?_) rfl (by kernel_rfl) (by kernel_rfl) (by kernel_rfl) (fun _ _ _ h => h) (Or.inl ⟨by rfl, ?_⟩) hHeld ?_
        rotate_left
        · intro w_ hSw; (try dsimp only at hSw); obtain ⟨s1_, s2_⟩ := hSw; (try obtain ⟨s1_, s3_⟩ := s1_); go_simp; try (with_reducible rfl)
        try simp only [Act.put, List.setIfInBounds_toArray, List.set_cons_zero, List.set_cons_succ]
        refine wpAnyH_take (i := 7) (oi := ({ dst := (some 20), op := (Op.move (Operand.tmp 19)), type := 4, pos := "ref.go:18", after := #[{ on := 6, ground := Ground.data }, { on := 5, ground := Ground.chain }], guard := none } : Oper)) (v := ?_) rfl (by kernel_rfl) (by kernel_rfl) (by kernel_rfl) (fun _ _ _ h => h) (Or.inl ⟨by rfl, ?_⟩) hHeld ?_
        rotate_left
        · intro w_ hSw; (try dsimp only at hSw); obtain ⟨s1_, s2_⟩ := hSw; (try obtain ⟨s1_, s3_⟩ := s1_); go_simp; try (with_reducible rfl)
        try simp only [Act.put, List.setIfInBounds_toArray, List.set_cons_zero, List.set_cons_succ]
        refine wpAnyH_take (i := 8) (oi := ({ dst := (some 21), op := (Op.move (Operand.tmp 0)), type := 24, pos := "ref.go:18", after := #[{ on := 7, ground := Ground.guard }], guard := (some (7, false)) } : Oper)) (v := _) rfl (by kernel_rfl) (by kernel_rfl) (by kernel_rfl) (fun _ _ _ h => h) (Or.inr ⟨by rfl, rfl⟩) hHeld ?_
        try simp only [Act.put, List.setIfInBounds_toArray, List.set_cons_zero, List.set_cons_succ]
        refine wpAnyH_take (i := 9) (oi := ({ dst := (some 22), op := (Op.move (Operand.tmp 3)), type := 3, pos := "ref.go:18", after := #[{ on := 7, ground := Ground.guard }], guard := (some (7, false)) } : Oper)) (v := _) rfl (by kernel_rfl) (by kernel_rfl) (by kernel_rfl) (fun _ _ _ h => h) (Or.inr ⟨by rfl, rfl⟩) hHeld ?_
        try simp only [Act.put, List.setIfInBounds_toArray, List.set_cons_zero, List.set_cons_succ]
        refine wpAnyH_take (i := 10) (oi := ({ dst := (some 23), op := (Op.indexAddr 24 (Operand.tmp 21) (Operand.tmp 22)), type := 0, pos := "ref.go:18", after := #[{ on := 8, ground := Ground.data }, { on := 9, ground := Ground.data }, { on := 7, ground := Ground.guard }], guard := (some (7, false)) } : Oper)) (v := _) rfl (by kernel_rfl) (by kernel_rfl) (by kernel_rfl) (fun _ _ _ h => h) (Or.inr ⟨by rfl, rfl⟩) hHeld ?_
        try simp only [Act.put, List.setIfInBounds_toArray, List.set_cons_zero, List.set_cons_succ]
        refine wpAnyH_take (i := 11) (oi := ({ dst := (some 24), op := (Op.fieldAddr 55 (Operand.tmp 23) 1), type := 0, pos := "ref.go:18", after := #[{ on := 10, ground := Ground.data }, { on := 7, ground := Ground.guard }], guard := (some (7, false)) } : Oper)) (v := _) rfl (by kernel_rfl) (by kernel_rfl) (by kernel_rfl) (fun _ _ _ h => h) (Or.inr ⟨by rfl, rfl⟩) hHeld ?_
        try simp only [Act.put, List.setIfInBounds_toArray, List.set_cons_zero, List.set_cons_succ]
        refine wpAnyH_take (i := 12) (oi := ({ dst := (some 25), op := (Op.load 9 (Operand.tmp 24)), type := 9, pos := "ref.go:18", after := #[{ on := 11, ground := Ground.data }, { on := 7, ground := Ground.guard }], guard := (some (7, false)) } : Oper)) (v := _) rfl (by kernel_rfl) (by kernel_rfl) (by kernel_rfl) (fun _ _ _ h => h) (Or.inr ⟨by rfl, rfl⟩) hHeld ?_
        try simp only [Act.put, List.setIfInBounds_toArray, List.set_cons_zero, List.set_cons_succ]
        refine wpAnyH_take (i := 13) (oi := ({ dst := (some 26), op := (Op.call { callee := (Callee.builtin Builtin.len), args := #[(Operand.tmp 25)], argTypes := #[9] }), type := 3, pos := "ref.go:18", after := #[{ on := 12, ground := Ground.data }, { on := 7, ground := Ground.guard }], guard := (some (7, false)) } : Oper)) (v := _) rfl (by kernel_rfl) (by kernel_rfl) (by kernel_rfl) (fun _ _ _ h => h) (Or.inr ⟨by rfl, rfl⟩) hHeld ?_
        try simp only [Act.put, List.setIfInBounds_toArray, List.set_cons_zero, List.set_cons_succ]
        refine wpAnyH_take (i := 14) (oi := ({ dst := (some 27), op := (Op.binOp BinOp.gtr 3 (Operand.tmp 26) (Operand.const (Value.int IntKind.i64 64)) 3), type := 4, pos := "ref.go:18", after := #[{ on := 13, ground := Ground.data }, { on := 7, ground := Ground.guard }], guard := (some (7, false)) } : Oper)) (v := _) rfl (by kernel_rfl) (by kernel_rfl) (by kernel_rfl) (fun _ _ _ h => h) (Or.inr ⟨by rfl, rfl⟩) hHeld ?_
        try simp only [Act.put, List.setIfInBounds_toArray, List.set_cons_zero, List.set_cons_succ]
        refine wpAnyH_take (i := 15) (oi := ({ dst := (some 28), op := (Op.pick (Operand.tmp 20) (Operand.const (Value.bool true)) (Operand.tmp 27)), type := 4, pos := "ref.go:18", after := #[{ on := 7, ground := Ground.data }, { on := 14, ground := Ground.data }], guard := none } : Oper)) (v := ?_) rfl (by kernel_rfl) (by kernel_rfl) (by kernel_rfl) (fun _ _ _ h => h) (Or.inl ⟨by rfl, ?_⟩) hHeld ?_
        rotate_left
        · intro w_ hSw; (try dsimp only at hSw); obtain ⟨s1_, s2_⟩ := hSw; (try obtain ⟨s1_, s3_⟩ := s1_); go_simp; try (with_reducible rfl)
        try simp only [Act.put, List.setIfInBounds_toArray, List.set_cons_zero, List.set_cons_succ]
        refine wpAnyH_take (i := 16) (oi := ({ dst := (some 29), op := (Op.move (Operand.tmp 28)), type := 4, pos := "ref.go:18", after := #[{ on := 15, ground := Ground.data }, { on := 7, ground := Ground.chain }], guard := none } : Oper)) (v := ?_) rfl (by kernel_rfl) (by kernel_rfl) (by kernel_rfl) (fun _ _ _ h => h) (Or.inl ⟨by rfl, ?_⟩) hHeld ?_
        rotate_left
        · intro w_ hSw; (try dsimp only at hSw); obtain ⟨s1_, s2_⟩ := hSw; (try obtain ⟨s1_, s3_⟩ := s1_); go_simp; try (with_reducible rfl)
        try simp only [Act.put, List.setIfInBounds_toArray, List.set_cons_zero, List.set_cons_succ]
        refine wpAnyH_take (i := 17) (oi := ({ dst := (some 30), op := (Op.move (Operand.tmp 3)), type := 3, pos := "ref.go:18", after := #[{ on := 16, ground := Ground.guard }], guard := (some (16, false)) } : Oper)) (v := _) rfl (by kernel_rfl) (by kernel_rfl) (by kernel_rfl) (fun _ _ _ h => h) (Or.inr ⟨by rfl, rfl⟩) hHeld ?_
        try simp only [Act.put, List.setIfInBounds_toArray, List.set_cons_zero, List.set_cons_succ]
        refine wpAnyH_take (i := 18) (oi := ({ dst := (some 31), op := (Op.binOp BinOp.gtr 3 (Operand.tmp 30) (Operand.const (Value.int IntKind.i64 0)) 3), type := 4, pos := "ref.go:18", after := #[{ on := 17, ground := Ground.data }, { on := 16, ground := Ground.guard }], guard := (some (16, false)) } : Oper)) (v := _) rfl (by kernel_rfl) (by kernel_rfl) (by kernel_rfl) (fun _ _ _ h => h) (Or.inr ⟨by rfl, rfl⟩) hHeld ?_
        try simp only [Act.put, List.setIfInBounds_toArray, List.set_cons_zero, List.set_cons_succ]
        refine wpAnyH_take (i := 19) (oi := ({ dst := (some 32), op := (Op.move (Operand.tmp 31)), type := 4, pos := "ref.go:18", after := #[{ on := 18, ground := Ground.data }, { on := 16, ground := Ground.chain }, { on := 16, ground := Ground.guard }], guard := (some (16, false)) } : Oper)) (v := _) rfl (by kernel_rfl) (by kernel_rfl) (by kernel_rfl) (fun _ _ _ h => h) (Or.inr ⟨by rfl, rfl⟩) hHeld ?_
        try simp only [Act.put, List.setIfInBounds_toArray, List.set_cons_zero, List.set_cons_succ]
        refine wpAnyH_take (i := 20) (oi := ({ dst := (some 33), op := (Op.move (Operand.tmp 0)), type := 24, pos := "ref.go:18", after := #[{ on := 19, ground := Ground.guard }], guard := (some (19, true)) } : Oper)) (v := _) rfl (by kernel_rfl) (by kernel_rfl) (by kernel_rfl) (fun _ _ _ h => h) (Or.inr ⟨by rfl, rfl⟩) hHeld ?_
        try simp only [Act.put, List.setIfInBounds_toArray, List.set_cons_zero, List.set_cons_succ]
        refine wpAnyH_take (i := 21) (oi := ({ dst := (some 34), op := (Op.move (Operand.tmp 3)), type := 3, pos := "ref.go:18", after := #[{ on := 19, ground := Ground.guard }], guard := (some (19, true)) } : Oper)) (v := _) rfl (by kernel_rfl) (by kernel_rfl) (by kernel_rfl) (fun _ _ _ h => h) (Or.inr ⟨by rfl, rfl⟩) hHeld ?_
        try simp only [Act.put, List.setIfInBounds_toArray, List.set_cons_zero, List.set_cons_succ]
        refine wpAnyH_take (i := 22) (oi := ({ dst := (some 35), op := (Op.binOp BinOp.sub 3 (Operand.tmp 34) (Operand.const (Value.int IntKind.i64 1)) 3), type := 3, pos := "ref.go:18", after := #[{ on := 21, ground := Ground.data }, { on := 19, ground := Ground.guard }], guard := (some (19, true)) } : Oper)) (v := _) rfl (by kernel_rfl) (by kernel_rfl) (by kernel_rfl) (fun _ _ _ h => h) (Or.inr ⟨by rfl, rfl⟩) hHeld ?_
        try simp only [Act.put, List.setIfInBounds_toArray, List.set_cons_zero, List.set_cons_succ]
        refine wpAnyH_take (i := 23) (oi := ({ dst := (some 36), op := (Op.indexAddr 24 (Operand.tmp 33) (Operand.tmp 35)), type := 0, pos := "ref.go:18", after := #[{ on := 20, ground := Ground.data }, { on := 22, ground := Ground.data }, { on := 19, ground := Ground.guard }], guard := (some (19, true)) } : Oper)) (v := _) rfl (by kernel_rfl) (by kernel_rfl) (by kernel_rfl) (fun _ _ _ h => h) (Or.inr ⟨by rfl, rfl⟩) hHeld ?_
        try simp only [Act.put, List.setIfInBounds_toArray, List.set_cons_zero, List.set_cons_succ]
        refine wpAnyH_take (i := 24) (oi := ({ dst := (some 37), op := (Op.fieldAddr 55 (Operand.tmp 36) 0), type := 0, pos := "ref.go:18", after := #[{ on := 23, ground := Ground.data }, { on := 19, ground := Ground.guard }], guard := (some (19, true)) } : Oper)) (v := _) rfl (by kernel_rfl) (by kernel_rfl) (by kernel_rfl) (fun _ _ _ h => h) (Or.inr ⟨by rfl, rfl⟩) hHeld ?_
        try simp only [Act.put, List.setIfInBounds_toArray, List.set_cons_zero, List.set_cons_succ]
        refine wpAnyH_take (i := 25) (oi := ({ dst := (some 38), op := (Op.load 9 (Operand.tmp 37)), type := 9, pos := "ref.go:18", after := #[{ on := 24, ground := Ground.data }, { on := 19, ground := Ground.guard }], guard := (some (19, true)) } : Oper)) (v := _) rfl (by kernel_rfl) (by kernel_rfl) (by kernel_rfl) (fun _ _ _ h => h) (Or.inr ⟨by rfl, rfl⟩) hHeld ?_
        try simp only [Act.put, List.setIfInBounds_toArray, List.set_cons_zero, List.set_cons_succ]
        refine wpAnyH_take (i := 26) (oi := ({ dst := (some 39), op := (Op.move (Operand.tmp 0)), type := 24, pos := "ref.go:18", after := #[{ on := 19, ground := Ground.guard }], guard := (some (19, true)) } : Oper)) (v := _) rfl (by kernel_rfl) (by kernel_rfl) (by kernel_rfl) (fun _ _ _ h => h) (Or.inr ⟨by rfl, rfl⟩) hHeld ?_
        try simp only [Act.put, List.setIfInBounds_toArray, List.set_cons_zero, List.set_cons_succ]
        refine wpAnyH_take (i := 27) (oi := ({ dst := (some 40), op := (Op.move (Operand.tmp 3)), type := 3, pos := "ref.go:18", after := #[{ on := 19, ground := Ground.guard }], guard := (some (19, true)) } : Oper)) (v := _) rfl (by kernel_rfl) (by kernel_rfl) (by kernel_rfl) (fun _ _ _ h => h) (Or.inr ⟨by rfl, rfl⟩) hHeld ?_
        try simp only [Act.put, List.setIfInBounds_toArray, List.set_cons_zero, List.set_cons_succ]
        refine wpAnyH_take (i := 28) (oi := ({ dst := (some 41), op := (Op.indexAddr 24 (Operand.tmp 39) (Operand.tmp 40)), type := 0, pos := "ref.go:18", after := #[{ on := 26, ground := Ground.data }, { on := 27, ground := Ground.data }, { on := 19, ground := Ground.guard }], guard := (some (19, true)) } : Oper)) (v := _) rfl (by kernel_rfl) (by kernel_rfl) (by kernel_rfl) (fun _ _ _ h => h) (Or.inr ⟨by rfl, rfl⟩) hHeld ?_
        try simp only [Act.put, List.setIfInBounds_toArray, List.set_cons_zero, List.set_cons_succ]
        refine wpAnyH_take (i := 29) (oi := ({ dst := (some 42), op := (Op.fieldAddr 55 (Operand.tmp 41) 0), type := 0, pos := "ref.go:18", after := #[{ on := 28, ground := Ground.data }, { on := 19, ground := Ground.guard }], guard := (some (19, true)) } : Oper)) (v := _) rfl (by kernel_rfl) (by kernel_rfl) (by kernel_rfl) (fun _ _ _ h => h) (Or.inr ⟨by rfl, rfl⟩) hHeld ?_
        try simp only [Act.put, List.setIfInBounds_toArray, List.set_cons_zero, List.set_cons_succ]
        refine wpAnyH_take (i := 30) (oi := ({ dst := (some 43), op := (Op.load 9 (Operand.tmp 42)), type := 9, pos := "ref.go:18", after := #[{ on := 29, ground := Ground.data }, { on := 19, ground := Ground.guard }], guard := (some (19, true)) } : Oper)) (v := _) rfl (by kernel_rfl) (by kernel_rfl) (by kernel_rfl) (fun _ _ _ h => h) (Or.inr ⟨by rfl, rfl⟩) hHeld ?_
        try simp only [Act.put, List.setIfInBounds_toArray, List.set_cons_zero, List.set_cons_succ]
        refine wpAnyH_take (i := 31) (oi := ({ dst := (some 44), op := (Op.binOp BinOp.geq 9 (Operand.tmp 38) (Operand.tmp 43) 9), type := 4, pos := "ref.go:18", after := #[{ on := 25, ground := Ground.data }, { on := 30, ground := Ground.data }, { on := 19, ground := Ground.guard }], guard := (some (19, true)) } : Oper)) (v := _) rfl (by kernel_rfl) (by kernel_rfl) (by kernel_rfl) (fun _ _ _ h => h) (Or.inr ⟨by rfl, rfl⟩) hHeld ?_
        try simp only [Act.put, List.setIfInBounds_toArray, List.set_cons_zero, List.set_cons_succ]
        refine wpAnyH_take (i := 32) (oi := ({ dst := (some 45), op := (Op.pick (Operand.tmp 32) (Operand.tmp 44) (Operand.const (Value.bool false))), type := 4, pos := "ref.go:18", after := #[{ on := 19, ground := Ground.data }, { on := 31, ground := Ground.data }, { on := 16, ground := Ground.guard }], guard := (some (16, false)) } : Oper)) (v := _) rfl (by kernel_rfl) (by kernel_rfl) (by kernel_rfl) (fun _ _ _ h => h) (Or.inr ⟨by rfl, rfl⟩) hHeld ?_
        try simp only [Act.put, List.setIfInBounds_toArray, List.set_cons_zero, List.set_cons_succ]
        refine wpAnyH_take (i := 33) (oi := ({ dst := (some 46), op := (Op.pick (Operand.tmp 29) (Operand.const (Value.bool true)) (Operand.tmp 45)), type := 4, pos := "ref.go:18", after := #[{ on := 16, ground := Ground.data }, { on := 32, ground := Ground.data }], guard := none } : Oper)) (v := ?_) rfl (by kernel_rfl) (by kernel_rfl) (by kernel_rfl) (fun _ _ _ h => h) (Or.inl ⟨by rfl, ?_⟩) hHeld ?_
        rotate_left
        · intro w_ hSw; (try dsimp only at hSw); obtain ⟨s1_, s2_⟩ := hSw; (try obtain ⟨s1_, s3_⟩ := s1_); go_simp; try (with_reducible rfl)
        try simp only [Act.put, List.setIfInBounds_toArray, List.set_cons_zero, List.set_cons_succ]
        refine wpAnyH_done (by kernel_rfl) ?_ _
        go_wp2_with fail
        go_ret
        exact ⟨by rw [HBAD.out (by simp [pairAt, *])]; rfl, HP.out.below⟩
    · have d1 : decide (x < (l.length : Int)) = false := decide_eq_false (by omega)
      have HE := Aside0.mk (show checkS l = 0 from by rw [HA.out, show l.length = j by have := HK.out; omega, HG.out]; rfl)
      clear hx c1
      go_wp2_with fail
      go_ret
      exact ⟨by rw [HE.out]; rfl, HP.out.below⟩
end Go.Proofs.Ytlgnfbgjdkbfoaa.Pg
