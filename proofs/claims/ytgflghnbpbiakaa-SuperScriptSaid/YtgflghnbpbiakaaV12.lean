import Derived.Test.YtgflghnbpbiakaaV11
import Derived.Test.YtgflghnbpbiakaaV05
namespace Go.Proofs.Ytgflghnbpbiakaa.Su
open Go.Proofs.Ytgflghnbpbiakaa.H hiding C_ints cellL cellN ev_copy ev_store_mid frozC i64k run_cut_all run_cut_arr run_cut_to setL set_self
open Go.RowKit Go.Proofs.Ytgflghnbpbiakaa.XH Go.Proofs.YtgflghnbpbiakaaW.PrintWords Go.Proofs.YtgflghnbpbiakaaW.PrintLast Go.Proofs.YtgflghnbpbiakaaW.PrintMore Go.Proofs.YtgflghnbpbiakaaXe Go.Proofs.YtgflghnbpbiakaaXs
set_option linter.unusedVariables false
set_option linter.unusedSimpArgs false
attribute [local go_sem ↓] Go.wp_at_zero Go.wp_at_succ
attribute [local go_sem] valUpon
open Go.Proofs.Ytgflghnbpbiakaa.D hiding c_len c_new c_write
theorem R_own0 {W : World} {e base n cap : Nat} {A : Option Addr} {ok : Nat → Prop} {xs : List Pt} (h : KPt.R e W base ok (.slice A n cap) xs) (hn : 0 < n) : ∃ g, A = some ⟨g, 0, none⟩ := by
  obtain ⟨_, inner, ho, _⟩ := h
  rcases ho.2 with ⟨h', h''⟩ | ⟨g', cap', cur, h', _⟩
  · simp at h'; omega
  · simp at h'; exact ⟨g', h'.1⟩
theorem R_frozP {W : World} {e base n cap g : Nat} {ok : Nat → Prop} {xs : List Pt} (h : KPt.R e W base ok (.slice (some ⟨g, 0, none⟩) n cap) xs) (j : Nat) : W.frozen? ⟨g, j, none⟩ = false := by
  obtain ⟨_, inner, ho, _⟩ := h
  have hn : n = xs.length := by
    rcases ho.2 with ⟨h', h''⟩ | ⟨g', cap', cur, h', _⟩
    · simp at h'
    · simp at h'; exact h'.2.1
  subst hn
  exact ho.frozenAt j
set_option maxHeartbeats 8000000 in
set_option maxRecDepth 100000 in
theorem c_rfirm {w0 w : World} {Rs : List Res} (HP0 : Hp w0 w Rs) (i g : Nat) (R : RS) (ex : List Pt) (hi : Rs[i]? = some (rRef w0.heap.size g R ex)) (hlf : R.firm.length ≤ 1000000) (p : Pt) (hp : p ∈ R.firm ++ (R.soft ++ ex)) :
    Calls Try.prog 57 #[.pointer (some ⟨g, 0, none⟩), .agg #[.int .i64 p.n, p.v]] w fun e w' => e = .returned (.tuple #[]) ∧ Hp w0 w' (Rs.set i (rRef w0.heap.size g { R with firm := putP R.firm p } ex)) := by
  obtain ⟨v1, v2, ps, hm, HP1⟩ := Hp.openR HP0 i g R ex hi
  have hil : i < Rs.length := (List.getElem?_eq_some_iff.1 hi).1
  have HP := Aside0.mk HP1
  have HM := Aside0.mk hm
  have HI := Aside0.mk hil
  clear HP0 HP1 hm hil
  obtain ⟨A1, c1, rfl⟩ := Kd.R_slice (HP.out.row 1 rfl)
  have HPM := Aside0.mk (HM.out p hp)
  obtain ⟨Ap, cp, epv, _, _⟩ := pool_C HP.out 3 rfl (HM.out p hp)
  have HV1 := Aside0.mk (show p.v.oneCell' = true from by rw [epv]; rfl)
  have HLF := Aside0.mk hlf
  have HCL := Aside0.mk (fun (w' : World) (v1 : Value) (ps' : List (Value × List Int)) (h : ∀ q ∈ putP R.firm p, inP ps q) => (show ∀ q ∈ putP R.firm p ++ (R.soft ++ ex), inP ps q from fun q hq => by
    rcases List.mem_append.1 hq with h1 | h1
    · exact h q h1
    · exact HM.out q (List.mem_append_right _ h1)))
  have HIN := Aside0.mk (show ∀ q ∈ putP R.firm p ++ (R.soft ++ ex), inP ps q from fun q hq => by
    rcases List.mem_append.1 hq with h1 | h1
    · rcases putP_mem R.firm p q h1 with h2 | ⟨h2, h3⟩
      · exact HM.out q (List.mem_append_left _ h2)
      · have h4 := HM.out p hp
        unfold inP at h4 ⊢
        rw [h2, h3]
        exact h4
    · exact HM.out q (List.mem_append_right _ h1))
  obtain ⟨pv, hpv⟩ : ∃ z, p.v = z := ⟨_, rfl⟩
  have HPV := Aside0.mk hpv
  rw [hpv] at HV1 epv ⊢
  subst epv
  obtain ⟨pn, hpn_⟩ : ∃ z, p.n = z := ⟨_, rfl⟩
  have HPN := Aside0.mk hpn_
  rw [hpn_]
  obtain ⟨F, hF⟩ : ∃ z, R.firm = z := ⟨_, rfl⟩
  have HFE := Aside0.mk hF
  rw [hF] at HP HLF HIN ⊢
  clear hi hp HM hlf HCL hpv hpn_ hF
  go_enter Try.func57, Try.ntmps57
  go_wp2_with (first | ((with_reducible refine gate_dst (N := 3) rfl ?_); refine ev_box rfl 102 (.tmp 1) rfl (#[.int .i64 pn, .slice Ap 64 cp]) rfl ?_; intro b0 w1 hge hg hb; have HPn := Aside0.mk (HP.out.newB hb hg hge); clear HP; have HP := HPn; clear HPn; clear hge hg hb))
  go_loopg [4] (F.length + 1) (fun kq v4 w' => ∃ (j : Nat) (x : Int), v4 = .int .i64 x ∧ Aside0 (x = (j : Int)) ∧ Aside0 (kq + j = F.length + 1) ∧ Aside0 (∀ k, k < j → ∀ q', F[k]? = some q' → q'.n ≠ p.n) ∧ Aside0 (Hp w0 w' (.blk b0 (.cells #[.int .i64 pn, .slice Ap 64 cp] 102 (0, 0)) :: .blk g (.cells (refC R (.slice A1 F.length c1) v2).toArray 72 (0, 0)) :: .row KPt 102 w0.heap.size (.slice A1 F.length c1) F :: .row KPt 102 w0.heap.size v2 R.soft :: .all (poolL w0.heap.size ps) :: Rs.set i .none)))
  case atStart => exact ⟨0, 0, rfl, ⟨rfl⟩, ⟨rfl⟩, ⟨fun k hk => absurd hk (by omega)⟩, HP⟩
  clear HP
  obtain ⟨j, x, rfl, HX, HK, HN, HP⟩ := hrel
  have hx := HX.out
  have hk := HK.out
  have hm := HLF.out
  have hc1 := (blk_cell (HP.out.blk 1 rfl) 1).trans (show _ = some (Value.slice A1 F.length c1) from rfl)
  by_cases c1_ : j < F.length
  · have d1 : decide (x < (F.length : Int)) = true := decide_eq_true (by omega)
    have ex_ := i64k (x := x + 1) rfl (by omega)
    obtain ⟨q, hq⟩ : ∃ q, F[j]? = some q := ⟨_, List.getElem?_eq_getElem c1_⟩
    obtain ⟨gr, rfl⟩ := R_own0 (HP.out.row 2 rfl) (by omega)
    have HC := Aside0.mk (fun (w' : World) (h : Hp w0 w' (.blk b0 (.cells #[.int .i64 pn, .slice Ap 64 cp] 102 (0, 0)) :: .blk g (.cells (refC R (.slice (some ⟨gr, 0, none⟩) F.length c1) v2).toArray 72 (0, 0)) :: .row KPt 102 w0.heap.size (.slice (some ⟨gr, 0, none⟩) F.length c1) F :: .row KPt 102 w0.heap.size v2 R.soft :: .all (poolL w0.heap.size ps) :: Rs.set i .none)) => cellsP (Kd.R_reads' (h.row 2 rfl)).2.2 hq)
    have hxj : x.toNat = j := by omega
    have p0 : 0 ≤ x := by omega
    have q0 : x < (F.length : Int) := by omega
    rw [← hxj, Nat.zero_add] at HC
    have HJ := Aside0.mk (And.intro c1_ (And.intro hxj hq))
    clear hx hk hm c1_ hxj hq
    go_wp2_with fail
    clear hc1
    refine held_named (S := (fun w' => w'.cell? ⟨g, 1, none⟩ = some (.slice (some ⟨gr, 0, none⟩) F.length c1) ∧ w'.cell? ⟨gr, x.toNat * 2, none⟩ = some (.int .i64 q.n) ∧ w'.cell? ⟨b0, 0, none⟩ = some (.int .i64 pn))) (by kernel_rfl) (fun wd0 hwd0 => ?_)
    have HPn := Aside0.mk (HP.out.drewN 1)
    rw [← World.drew_is_drewN, hwd0] at HPn
    clear HP hwd0
    have HP := HPn
    clear HPn
    refine ⟨by (try dsimp only); exact ⟨blk_cell (HP.out.blk 1 rfl) 1, (HC.out _ HP.out).1, blk_cell (HP.out.blk 0 rfl) 0⟩, fun hHeld => ?_⟩
    refine wpAnyH_take (i := 0) (oi := ({ dst := (some 14), op := (Op.move (Operand.tmp 0)), type := 58, pos := "ref.go:95", after := #[], guard := none } : Oper)) (v := ?_) rfl (by kernel_rfl) (by kernel_rfl) (by kernel_rfl) (fun _ _ _ h => h) (Or.inl ⟨by rfl, ?_⟩) hHeld ?_
    rotate_left
    · intro w_ hSw; (try dsimp only at hSw); go_simp; try (with_reducible rfl)
    try simp only [Act.put, List.setIfInBounds_toArray, List.set_cons_zero, List.set_cons_succ]
    refine wpAnyH_take (i := 1) (oi := ({ dst := (some 15), op := (Op.nilCheck (Operand.tmp 14)), type := 0, pos := "ref.go:95", after := #[{ on := 0, ground := Ground.data }], guard := none } : Oper)) (v := ?_) rfl (by kernel_rfl) (by kernel_rfl) (by kernel_rfl) (fun _ _ _ h => h) (Or.inl ⟨by rfl, ?_⟩) hHeld ?_
    rotate_left
    · intro w_ hSw; (try dsimp only at hSw); go_simp; try (with_reducible rfl)
    try simp only [Act.put, List.setIfInBounds_toArray, List.set_cons_zero, List.set_cons_succ]
    refine wpAnyH_take (i := 2) (oi := ({ dst := (some 16), op := (Op.fieldAddr 72 (Operand.tmp 15) 1), type := 0, pos := "ref.go:95", after := #[{ on := 1, ground := Ground.data }], guard := none } : Oper)) (v := ?_) rfl (by kernel_rfl) (by kernel_rfl) (by kernel_rfl) (fun _ _ _ h => h) (Or.inl ⟨by rfl, ?_⟩) hHeld ?_
    rotate_left
    · intro w_ hSw; (try dsimp only at hSw); go_simp; try (with_reducible rfl)
    try simp only [Act.put, List.setIfInBounds_toArray, List.set_cons_zero, List.set_cons_succ]
    refine wpAnyH_take (i := 3) (oi := ({ dst := (some 17), op := (Op.load 70 (Operand.tmp 16)), type := 70, pos := "ref.go:95", after := #[{ on := 2, ground := Ground.data }], guard := none } : Oper)) (v := ?_) rfl (by kernel_rfl) (by kernel_rfl) (by kernel_rfl) (fun _ _ _ h => h) (Or.inl ⟨by rfl, ?_⟩) hHeld ?_
    rotate_left
    · intro w_ hSw; (try dsimp only at hSw); go_simp; try (with_reducible rfl)
    try simp only [Act.put, List.setIfInBounds_toArray, List.set_cons_zero, List.set_cons_succ]
    refine wpAnyH_take (i := 4) (oi := ({ dst := (some 18), op := (Op.move (Operand.tmp 4)), type := 3, pos := "ref.go:95", after := #[], guard := none } : Oper)) (v := ?_) rfl (by kernel_rfl) (by kernel_rfl) (by kernel_rfl) (fun _ _ _ h => h) (Or.inl ⟨by rfl, ?_⟩) hHeld ?_
    rotate_left
    · intro w_ hSw; (try dsimp only at hSw); go_simp; try (with_reducible rfl)
    try simp only [Act.put, List.setIfInBounds_toArray, List.set_cons_zero, List.set_cons_succ]
    refine wpAnyH_take (i := 5) (oi := ({ dst := (some 19), op := (Op.indexAddr 70 (Operand.tmp 17) (Operand.tmp 18)), type := 0, pos := "ref.go:95", after := #[{ on := 3, ground := Ground.data }, { on := 4, ground := Ground.data }], guard := none } : Oper)) (v := ?_) rfl (by kernel_rfl) (by kernel_rfl) (by kernel_rfl) (fun _ _ _ h => h) (Or.inl ⟨by rfl, ?_⟩) hHeld ?_
    rotate_left
    · intro w_ hSw; (try dsimp only at hSw); go_simp; try (with_reducible rfl)
    try simp only [Act.put, List.setIfInBounds_toArray, List.set_cons_zero, List.set_cons_succ]
    refine wpAnyH_take (i := 6) (oi := ({ dst := (some 20), op := (Op.fieldAddr 102 (Operand.tmp 19) 0), type := 0, pos := "ref.go:95", after := #[{ on := 5, ground := Ground.data }], guard := none } : Oper)) (v := ?_) rfl (by kernel_rfl) (by kernel_rfl) (by kernel_rfl) (fun _ _ _ h => h) (Or.inl ⟨by rfl, ?_⟩) hHeld ?_
    rotate_left
    · intro w_ hSw; (try dsimp only at hSw); go_simp; try (with_reducible rfl)
    try simp only [Act.put, List.setIfInBounds_toArray, List.set_cons_zero, List.set_cons_succ]
    refine wpAnyH_take (i := 7) (oi := ({ dst := (some 21), op := (Op.load 3 (Operand.tmp 20)), type := 3, pos := "ref.go:95", after := #[{ on := 6, ground := Ground.data }], guard := none } : Oper)) (v := ?_) rfl (by kernel_rfl) (by kernel_rfl) (by kernel_rfl) (fun _ _ _ h => h) (Or.inl ⟨by rfl, ?_⟩) hHeld ?_
    rotate_left
    · intro w_ hSw; (try dsimp only at hSw); go_simp; try (with_reducible rfl)
    try simp only [Act.put, List.setIfInBounds_toArray, List.set_cons_zero, List.set_cons_succ]
    refine wpAnyH_take (i := 8) (oi := ({ dst := (some 22), op := (Op.fieldAddr 102 (Operand.tmp 3) 0), type := 0, pos := "ref.go:95", after := #[], guard := none } : Oper)) (v := ?_) rfl (by kernel_rfl) (by kernel_rfl) (by kernel_rfl) (fun _ _ _ h => h) (Or.inl ⟨by rfl, ?_⟩) hHeld ?_
    rotate_left
    · intro w_ hSw; (try dsimp only at hSw); go_simp; try (with_reducible rfl)
    try simp only [Act.put, List.setIfInBounds_toArray, List.set_cons_zero, List.set_cons_succ]
    refine wpAnyH_take (i := 9) (oi := ({ dst := (some 23), op := (Op.load 3 (Operand.tmp 22)), type := 3, pos := "ref.go:95", after := #[{ on := 8, ground := Ground.data }], guard := none } : Oper)) (v := ?_) rfl (by kernel_rfl) (by kernel_rfl) (by kernel_rfl) (fun _ _ _ h => h) (Or.inl ⟨by rfl, ?_⟩) hHeld ?_
    rotate_left
    · intro w_ hSw; (try dsimp only at hSw); go_simp; try (with_reducible rfl)
    try simp only [Act.put, List.setIfInBounds_toArray, List.set_cons_zero, List.set_cons_succ]
    refine wpAnyH_take (i := 10) (oi := ({ dst := (some 24), op := (Op.binOp BinOp.eql 3 (Operand.tmp 21) (Operand.tmp 23) 3), type := 4, pos := "ref.go:95", after := #[{ on := 7, ground := Ground.data }, { on := 9, ground := Ground.data }], guard := none } : Oper)) (v := ?_) rfl (by kernel_rfl) (by kernel_rfl) (by kernel_rfl) (fun _ _ _ h => h) (Or.inl ⟨by rfl, ?_⟩) hHeld ?_
    rotate_left
    · intro w_ hSw; (try dsimp only at hSw); go_simp; try (with_reducible rfl)
    try simp only [Act.put, List.setIfInBounds_toArray, List.set_cons_zero, List.set_cons_succ]
    refine wpAnyH_done (by kernel_rfl) ?_ _
    clear hHeld
    by_cases c2 : q.n = pn
    · have d2 : (q.n == pn) = true := beq_iff_eq.2 c2
      have HPE := Aside0.mk (show putP F p = F.set j ⟨q.n, p.v, p.b⟩ from putP_at F p j q HJ.out.2.2 (by rw [HPN.out]; exact c2) HN.out)
      clear c2
      go_wp2_with fail
      refine last_named (ds := [9]) (S := (fun w' => w'.cell? ⟨g, 1, none⟩ = some (.slice (some ⟨gr, 0, none⟩) F.length c1) ∧ w'.cell? ⟨b0, 1, none⟩ = some (.slice Ap 64 cp))) (by kernel_rfl) (fun wd5 hwd5 => ?_)
      have HPn := Aside0.mk (HP.out.drewN 1)
      rw [← World.drew_is_drewN, hwd5] at HPn
      clear HP hwd5
      have HP := HPn
      clear HPn
      refine ⟨by (try dsimp only); exact ⟨blk_cell (HP.out.blk 1 rfl) 1, blk_cell (HP.out.blk 0 rfl) 1⟩, fun hHeld => ?_⟩
      refine wpAnyLast_take (i := 0) (oi := ({ dst := (some 25), op := (Op.move (Operand.tmp 0)), type := 58, pos := "ref.go:96", after := #[], guard := none } : Oper)) (v := ?_) rfl (by kernel_rfl) (by kernel_rfl) (by kernel_rfl) (by kernel_rfl) (by kernel_rfl) (fun _ _ _ h => h) (Or.inl ⟨by rfl, ?_⟩) hHeld ?_
      rotate_left
      · intro w_ hSw; (try dsimp only at hSw); go_simp; try (with_reducible rfl)
      try simp only [Act.put, List.setIfInBounds_toArray, List.set_cons_zero, List.set_cons_succ]
      refine wpAnyLast_take (i := 1) (oi := ({ dst := (some 26), op := (Op.nilCheck (Operand.tmp 25)), type := 0, pos := "ref.go:96", after := #[{ on := 0, ground := Ground.data }], guard := none } : Oper)) (v := ?_) rfl (by kernel_rfl) (by kernel_rfl) (by kernel_rfl) (by kernel_rfl) (by kernel_rfl) (fun _ _ _ h => h) (Or.inl ⟨by rfl, ?_⟩) hHeld ?_
      rotate_left
      · intro w_ hSw; (try dsimp only at hSw); go_simp; try (with_reducible rfl)
      try simp only [Act.put, List.setIfInBounds_toArray, List.set_cons_zero, List.set_cons_succ]
      refine wpAnyLast_take (i := 2) (oi := ({ dst := (some 27), op := (Op.fieldAddr 72 (Operand.tmp 26) 1), type := 0, pos := "ref.go:96", after := #[{ on := 1, ground := Ground.data }], guard := none } : Oper)) (v := ?_) rfl (by kernel_rfl) (by kernel_rfl) (by kernel_rfl) (by kernel_rfl) (by kernel_rfl) (fun _ _ _ h => h) (Or.inl ⟨by rfl, ?_⟩) hHeld ?_
      rotate_left
      · intro w_ hSw; (try dsimp only at hSw); go_simp; try (with_reducible rfl)
      try simp only [Act.put, List.setIfInBounds_toArray, List.set_cons_zero, List.set_cons_succ]
      refine wpAnyLast_take (i := 3) (oi := ({ dst := (some 28), op := (Op.load 70 (Operand.tmp 27)), type := 70, pos := "ref.go:96", after := #[{ on := 2, ground := Ground.data }], guard := none } : Oper)) (v := ?_) rfl (by kernel_rfl) (by kernel_rfl) (by kernel_rfl) (by kernel_rfl) (by kernel_rfl) (fun _ _ _ h => h) (Or.inl ⟨by rfl, ?_⟩) hHeld ?_
      rotate_left
      · intro w_ hSw; (try dsimp only at hSw); go_simp; try (with_reducible rfl)
      try simp only [Act.put, List.setIfInBounds_toArray, List.set_cons_zero, List.set_cons_succ]
      refine wpAnyLast_take (i := 4) (oi := ({ dst := (some 29), op := (Op.move (Operand.tmp 4)), type := 3, pos := "ref.go:96", after := #[], guard := none } : Oper)) (v := ?_) rfl (by kernel_rfl) (by kernel_rfl) (by kernel_rfl) (by kernel_rfl) (by kernel_rfl) (fun _ _ _ h => h) (Or.inl ⟨by rfl, ?_⟩) hHeld ?_
      rotate_left
      · intro w_ hSw; (try dsimp only at hSw); go_simp; try (with_reducible rfl)
      try simp only [Act.put, List.setIfInBounds_toArray, List.set_cons_zero, List.set_cons_succ]
      refine wpAnyLast_take (i := 5) (oi := ({ dst := (some 30), op := (Op.fieldAddr 102 (Operand.tmp 3) 1), type := 0, pos := "ref.go:96", after := #[], guard := none } : Oper)) (v := ?_) rfl (by kernel_rfl) (by kernel_rfl) (by kernel_rfl) (by kernel_rfl) (by kernel_rfl) (fun _ _ _ h => h) (Or.inl ⟨by rfl, ?_⟩) hHeld ?_
      rotate_left
      · intro w_ hSw; (try dsimp only at hSw); go_simp; try (with_reducible rfl)
      try simp only [Act.put, List.setIfInBounds_toArray, List.set_cons_zero, List.set_cons_succ]
      refine wpAnyLast_take (i := 6) (oi := ({ dst := (some 31), op := (Op.load 26 (Operand.tmp 30)), type := 26, pos := "ref.go:96", after := #[{ on := 5, ground := Ground.data }], guard := none } : Oper)) (v := ?_) rfl (by kernel_rfl) (by kernel_rfl) (by kernel_rfl) (by kernel_rfl) (by kernel_rfl) (fun _ _ _ h => h) (Or.inl ⟨by rfl, ?_⟩) hHeld ?_
      rotate_left
      · intro w_ hSw; (try dsimp only at hSw); go_simp; try (with_reducible rfl)
      try simp only [Act.put, List.setIfInBounds_toArray, List.set_cons_zero, List.set_cons_succ]
      refine wpAnyLast_take (i := 7) (oi := ({ dst := (some 32), op := (Op.indexAddr 70 (Operand.tmp 28) (Operand.tmp 29)), type := 0, pos := "ref.go:96", after := #[{ on := 3, ground := Ground.data }, { on := 4, ground := Ground.data }, { on := 0, ground := Ground.phase }, { on := 1, ground := Ground.phase }, { on := 2, ground := Ground.phase }, { on := 3, ground := Ground.phase }, { on := 4, ground := Ground.phase }, { on := 5, ground := Ground.phase }, { on := 6, ground := Ground.phase }], guard := none } : Oper)) (v := ?_) rfl (by kernel_rfl) (by kernel_rfl) (by kernel_rfl) (by kernel_rfl) (by kernel_rfl) (fun _ _ _ h => h) (Or.inl ⟨by rfl, ?_⟩) hHeld ?_
      rotate_left
      · intro w_ hSw; (try dsimp only at hSw); go_simp; try (with_reducible rfl)
      try simp only [Act.put, List.setIfInBounds_toArray, List.set_cons_zero, List.set_cons_succ]
      refine wpAnyLast_take (i := 8) (oi := ({ dst := (some 33), op := (Op.fieldAddr 102 (Operand.tmp 32) 1), type := 0, pos := "ref.go:96", after := #[{ on := 7, ground := Ground.data }, { on := 0, ground := Ground.phase }, { on := 1, ground := Ground.phase }, { on := 2, ground := Ground.phase }, { on := 3, ground := Ground.phase }, { on := 4, ground := Ground.phase }, { on := 5, ground := Ground.phase }, { on := 6, ground := Ground.phase }], guard := none } : Oper)) (v := ?_) rfl (by kernel_rfl) (by kernel_rfl) (by kernel_rfl) (by kernel_rfl) (by kernel_rfl) (fun _ _ _ h => h) (Or.inl ⟨by rfl, ?_⟩) hHeld ?_
      rotate_left
      · intro w_ hSw; (try dsimp only at hSw); go_simp; try (with_reducible rfl)
      try simp only [Act.put, List.setIfInBounds_toArray, List.set_cons_zero, List.set_cons_succ]
      refine wpAnyLast_ready (rs := [9]) (by kernel_rfl) (by simp) ?_
      refine AllReadyL.cons_last (o := ({ dst := none, op := (Op.store 26 (Operand.tmp 33) (Operand.tmp 31)), type := 0, pos := "ref.go:96", after := #[{ on := 8, ground := Ground.data }, { on := 6, ground := Ground.data }, { on := 0, ground := Ground.phase }, { on := 1, ground := Ground.phase }, { on := 2, ground := Ground.phase }, { on := 3, ground := Ground.phase }, { on := 4, ground := Ground.phase }, { on := 5, ground := Ground.phase }, { on := 6, ground := Ground.phase }], guard := none } : Oper)) rfl (by decide) (fun K hK => ?_) AllReadyL.nil
      have hcS := (HC.out _ HP.out).2; have hfS := R_frozP (HP.out.row 2 rfl) (x.toNat * 2 + 1); go_simp; have HPn := Aside0.mk (Hp.putP HP.out 2 rfl x.toNat q (by rw [HJ.out.2.1]; exact HJ.out.2.2) (.slice Ap 64 cp) p.b rfl); clear HP hcS hfS; have HP := HPn; clear HPn
      clear hHeld
      refine hK.out _ _ ?_
      clear hK K
      try simp only [Act.put, List.setIfInBounds_toArray, List.set_cons_zero, List.set_cons_succ]
      refine wpAnyLast_done (by kernel_rfl) ?_ _
      have HPF := Aside0.mk (Hp.closeR { R with firm := putP F p } ex (v1 := .slice (some ⟨gr, 0, none⟩) F.length c1) (v2 := v2) (ps := ps) HIN.out HI.out (show Hp w0 _ (.blk g (.cells (refC R (.slice (some ⟨gr, 0, none⟩) F.length c1) v2).toArray 72 (0, 0)) :: .row KPt 102 w0.heap.size (.slice (some ⟨gr, 0, none⟩) F.length c1) (putP F p) :: .row KPt 102 w0.heap.size v2 R.soft :: .all (poolL w0.heap.size ps) :: Rs.set i .none) from by
        have h := HP.out.drop1
        have e := HPE.out
        rw [← HJ.out.2.1, HPV.out] at e
        rw [e]
        exact h))
      clear HP
      go_wp2_with fail
      refine bodyPost_ret (v := .tuple #[]) (by simp [results, Try.results57, go_sem]) rfl ?_
      exact ⟨rfl, HPF.out⟩
    · have d2 : (q.n == pn) = false := beq_eq_false_iff_ne.2 c2
      have HN2 := Aside0.mk (show ∀ k, k < j + 1 → ∀ q', F[k]? = some q' → q'.n ≠ p.n from fun k hk q' hq' => by
        rcases Nat.lt_or_ge k j with h | h
        · exact HN.out k h q' hq'
        · obtain rfl : k = j := by omega
          rw [HJ.out.2.2] at hq'
          cases hq'
          rw [HPN.out]
          exact c2)
      clear c2
      go_wp2_with fail
      go_roundg (gk - 1)
      case measure => have := HK.out; have := HJ.out.1; omega
      case rel => exact ⟨j + 1, x + 1, rfl, ⟨by have := HX.out; omega⟩, ⟨by have := HK.out; have := HJ.out.1; omega⟩, HN2, HP⟩
  · have d1 : decide (x < (F.length : Int)) = false := decide_eq_false (by omega)
    have HPE := Aside0.mk (show putP F p = F ++ [p] from putP_end F p (fun q hq => by
      obtain ⟨k, hk2, rfl⟩ := List.getElem_of_mem hq
      exact HN.out k (by omega) _ (List.getElem?_eq_getElem hk2)))
    clear hx hk hm c1_
    go_wp2_with fail
    clear hc1
    refine last_named (ds := [10]) (S := (fun w' => w'.cell? ⟨g, 1, none⟩ = some (.slice A1 F.length c1) ∧ w'.rangeAt b0 0 [.int .i64 pn, .slice Ap 64 cp])) (by kernel_rfl) (fun wd6 hwd6 => ?_)
    have HPn := Aside0.mk (HP.out.drewN 1)
    rw [← World.drew_is_drewN, hwd6] at HPn
    clear HP hwd6
    have HP := HPn
    clear HPn
    refine ⟨by (try dsimp only); first | exact ⟨blk_cell (HP.out.blk 1 rfl) 1, rangeB (HP.out.blk 0 rfl)⟩ | exact ⟨blk_cell (HP.out.blk 2 rfl) 1, rangeB (HP.out.blk 1 rfl)⟩, fun hHeld => ?_⟩
    refine wpAnyLast_take (i := 0) (oi := ({ dst := (some 34), op := (Op.move (Operand.tmp 0)), type := 58, pos := "ref.go:100", after := #[], guard := none } : Oper)) (v := ?_) rfl (by kernel_rfl) (by kernel_rfl) (by kernel_rfl) (by kernel_rfl) (by kernel_rfl) (fun _ _ _ h => h) (Or.inl ⟨by rfl, ?_⟩) hHeld ?_
    rotate_left
    · intro w_ hSw; (try dsimp only at hSw); go_simp; try (with_reducible rfl)
    try simp only [Act.put, List.setIfInBounds_toArray, List.set_cons_zero, List.set_cons_succ]
    refine wpAnyLast_take (i := 1) (oi := ({ dst := (some 35), op := (Op.move (Operand.tmp 0)), type := 58, pos := "ref.go:100", after := #[], guard := none } : Oper)) (v := ?_) rfl (by kernel_rfl) (by kernel_rfl) (by kernel_rfl) (by kernel_rfl) (by kernel_rfl) (fun _ _ _ h => h) (Or.inl ⟨by rfl, ?_⟩) hHeld ?_
    rotate_left
    · intro w_ hSw; (try dsimp only at hSw); go_simp; try (with_reducible rfl)
    try simp only [Act.put, List.setIfInBounds_toArray, List.set_cons_zero, List.set_cons_succ]
    refine wpAnyLast_take (i := 2) (oi := ({ dst := (some 36), op := (Op.nilCheck (Operand.tmp 35)), type := 0, pos := "ref.go:100", after := #[{ on := 1, ground := Ground.data }], guard := none } : Oper)) (v := ?_) rfl (by kernel_rfl) (by kernel_rfl) (by kernel_rfl) (by kernel_rfl) (by kernel_rfl) (fun _ _ _ h => h) (Or.inl ⟨by rfl, ?_⟩) hHeld ?_
    rotate_left
    · intro w_ hSw; (try dsimp only at hSw); go_simp; try (with_reducible rfl)
    try simp only [Act.put, List.setIfInBounds_toArray, List.set_cons_zero, List.set_cons_succ]
    refine wpAnyLast_take (i := 3) (oi := ({ dst := (some 37), op := (Op.fieldAddr 72 (Operand.tmp 36) 1), type := 0, pos := "ref.go:100", after := #[{ on := 2, ground := Ground.data }], guard := none } : Oper)) (v := ?_) rfl (by kernel_rfl) (by kernel_rfl) (by kernel_rfl) (by kernel_rfl) (by kernel_rfl) (fun _ _ _ h => h) (Or.inl ⟨by rfl, ?_⟩) hHeld ?_
    rotate_left
    · intro w_ hSw; (try dsimp only at hSw); go_simp; try (with_reducible rfl)
    try simp only [Act.put, List.setIfInBounds_toArray, List.set_cons_zero, List.set_cons_succ]
    refine wpAnyLast_take (i := 4) (oi := ({ dst := (some 38), op := (Op.load 70 (Operand.tmp 37)), type := 70, pos := "ref.go:100", after := #[{ on := 3, ground := Ground.data }], guard := none } : Oper)) (v := ?_) rfl (by kernel_rfl) (by kernel_rfl) (by kernel_rfl) (by kernel_rfl) (by kernel_rfl) (fun _ _ _ h => h) (Or.inl ⟨by rfl, ?_⟩) hHeld ?_
    rotate_left
    · intro w_ hSw; (try dsimp only at hSw); go_simp; try (with_reducible rfl)
    try simp only [Act.put, List.setIfInBounds_toArray, List.set_cons_zero, List.set_cons_succ]
    refine wpAnyLast_take (i := 5) (oi := ({ dst := (some 39), op := (Op.load 102 (Operand.tmp 3)), type := 102, pos := "ref.go:100", after := #[], guard := none } : Oper)) (v := _) rfl (by kernel_rfl) (by kernel_rfl) (by kernel_rfl) (by kernel_rfl) (by kernel_rfl) (fun _ _ _ h => h) (yieldsIf_load_mid (by rfl) _ _ rfl _ _ rfl _ _ (fun w h => h.2) Try.underlying102 rfl (by kernel_rfl)) hHeld ?_
    try simp only [Act.put, List.setIfInBounds_toArray, List.set_cons_zero, List.set_cons_succ]
    refine wpAnyLast_ready (rs := [6]) (by kernel_rfl) (by simp) ?_
    refine AllReadyL.cons (o := ({ dst := (some 40), op := (Op.buildSlice 70 1 #[(0, (Operand.tmp 39))]), type := 70, pos := "ref.go:100", after := #[{ on := 5, ground := Ground.data }], guard := none } : Oper)) rfl (by decide) (fun K hK => ?_) AllReadyL.nil
    go_simp; have HPn := Aside0.mk (HP.out.alloc (.cells #[.int .i64 pn, .slice Ap 64 cp] 102 (0, 0))); clear HP; have HP := HPn; clear HPn; obtain ⟨wx, hwx⟩ : ∃ z, wd6.alloc (.cells #[.int .i64 pn, .slice Ap 64 cp] 102) = z := ⟨_, rfl⟩; obtain ⟨gx, hgx⟩ : ∃ z, wd6.heap.size = z := ⟨_, rfl⟩; rw [show wd6.alloc (.cells #[.int .i64 pn, .slice Ap 64 cp] 102 (0, 0)) = wx from hwx, hgx] at HP; rw [show wd6.alloc (.cells #[.int .i64 pn, .slice Ap 64 cp] 102 (0, 0)) = wx from hwx, hgx]; clear hwx hgx
    clear hHeld
    refine hK.out _ _ ?_ (fun hHeld => ?_)
    · (try dsimp only); first | exact ⟨blk_cell (HP.out.blk 1 rfl) 1, rangeB (HP.out.blk 0 rfl)⟩ | exact ⟨blk_cell (HP.out.blk 2 rfl) 1, rangeB (HP.out.blk 1 rfl)⟩
    clear hK K
    try simp only [Act.put, List.setIfInBounds_toArray, List.set_cons_zero, List.set_cons_succ]
    refine wpAnyLast_ready (rs := [7]) (by kernel_rfl) (by simp) ?_
    refine AllReadyL.cons (o := ({ dst := (some 41), op := (Op.call { callee := (Callee.builtin Builtin.append), args := #[(Operand.tmp 38), (Operand.tmp 40)], argTypes := #[70, 70] }), type := 70, pos := "ref.go:100", after := #[{ on := 4, ground := Ground.data }, { on := 6, ground := Ground.data }], guard := none } : Oper)) rfl (by decide) (fun K hK => ?_) AllReadyL.nil
    refine st_append plain_KPt HP.out 3 (by rfl) (.tmp 38) (.tmp 40) 70 102 _ 32 (by rfl) Try.underlying70 infoKPt rfl (by decide) (by decide) (.slice A1 F.length c1) F [⟨pn, .slice Ap 64 cp, p.b⟩] (some ⟨gx, 0, none⟩) 1 1 (by rfl) (by rfl) rfl (C_blk1 KPt (HP.out.blk 0 rfl) ⟨rfl, rfl⟩) (by have := HLF.out; omega) ?_; intro v_m wz hpn; clear HP; have HP := Aside0.mk hpn; clear hpn; obtain ⟨A_m, c_m, rfl⟩ := Kd.R_slice (HP.out.row 3 rfl); simp only [List.length_append, List.length_cons, List.length_nil, Nat.zero_add] at HP; (try simp only [List.length_append, List.length_cons, List.length_nil, Nat.zero_add])
    clear hHeld
    refine hK.out _ _ ?_ (fun hHeld => ?_)
    · (try dsimp only); first | exact ⟨blk_cell (HP.out.blk 1 rfl) 1, rangeB (HP.out.blk 0 rfl)⟩ | exact ⟨blk_cell (HP.out.blk 2 rfl) 1, rangeB (HP.out.blk 1 rfl)⟩
    clear hK K
    try simp only [Act.put, List.setIfInBounds_toArray, List.set_cons_zero, List.set_cons_succ]
    refine wpAnyLast_take (i := 8) (oi := ({ dst := (some 42), op := (Op.nilCheck (Operand.tmp 34)), type := 0, pos := "ref.go:100", after := #[{ on := 0, ground := Ground.data }, { on := 0, ground := Ground.phase }, { on := 1, ground := Ground.phase }, { on := 2, ground := Ground.phase }, { on := 3, ground := Ground.phase }, { on := 4, ground := Ground.phase }, { on := 5, ground := Ground.phase }, { on := 6, ground := Ground.phase }, { on := 7, ground := Ground.phase }], guard := none } : Oper)) (v := ?_) rfl (by kernel_rfl) (by kernel_rfl) (by kernel_rfl) (by kernel_rfl) (by kernel_rfl) (fun _ _ _ h => h) (Or.inl ⟨by rfl, ?_⟩) hHeld ?_
    rotate_left
    · intro w_ hSw; (try dsimp only at hSw); go_simp; try (with_reducible rfl)
    try simp only [Act.put, List.setIfInBounds_toArray, List.set_cons_zero, List.set_cons_succ]
    refine wpAnyLast_take (i := 9) (oi := ({ dst := (some 43), op := (Op.fieldAddr 72 (Operand.tmp 42) 1), type := 0, pos := "ref.go:100", after := #[{ on := 8, ground := Ground.data }, { on := 0, ground := Ground.phase }, { on := 1, ground := Ground.phase }, { on := 2, ground := Ground.phase }, { on := 3, ground := Ground.phase }, { on := 4, ground := Ground.phase }, { on := 5, ground := Ground.phase }, { on := 6, ground := Ground.phase }, { on := 7, ground := Ground.phase }], guard := none } : Oper)) (v := ?_) rfl (by kernel_rfl) (by kernel_rfl) (by kernel_rfl) (by kernel_rfl) (by kernel_rfl) (fun _ _ _ h => h) (Or.inl ⟨by rfl, ?_⟩) hHeld ?_
    rotate_left
    · intro w_ hSw; (try dsimp only at hSw); go_simp; try (with_reducible rfl)
    try simp only [Act.put, List.setIfInBounds_toArray, List.set_cons_zero, List.set_cons_succ]
    refine wpAnyLast_ready (rs := [10]) (by kernel_rfl) (by simp) ?_
    refine AllReadyL.cons_last (o := ({ dst := none, op := (Op.store 70 (Operand.tmp 43) (Operand.tmp 41)), type := 0, pos := "ref.go:100", after := #[{ on := 9, ground := Ground.data }, { on := 7, ground := Ground.data }, { on := 7, ground := Ground.chain }, { on := 0, ground := Ground.phase }, { on := 1, ground := Ground.phase }, { on := 2, ground := Ground.phase }, { on := 3, ground := Ground.phase }, { on := 4, ground := Ground.phase }, { on := 5, ground := Ground.phase }, { on := 6, ground := Ground.phase }, { on := 7, ground := Ground.phase }], guard := none } : Oper)) rfl (by decide) (fun K hK => ?_) AllReadyL.nil
    have hcS := blk_cell (HP.out.blk 2 rfl) 1; have hfS := blk_frozen (HP.out.blk 2 rfl) 1; go_simp; have HPn := Aside0.mk (HP.out.setCell 2 rfl 1 (.slice A_m (F.length + 1) c_m)); clear HP hcS hfS; have HP := HPn; clear HPn
    clear hHeld
    refine hK.out _ _ ?_
    clear hK K
    try simp only [Act.put, List.setIfInBounds_toArray, List.set_cons_zero, List.set_cons_succ]
    refine wpAnyLast_done (by kernel_rfl) ?_ _
    have HPF := Aside0.mk (Hp.closeR { R with firm := putP F p } ex (v1 := .slice A_m (F.length + 1) c_m) (v2 := v2) (ps := ps) HIN.out HI.out (show Hp w0 _ (.blk g (.cells (refC R (.slice A_m (F.length + 1) c_m) v2).toArray 72 (0, 0)) :: .row KPt 102 w0.heap.size (.slice A_m (F.length + 1) c_m) (putP F p) :: .row KPt 102 w0.heap.size v2 R.soft :: .all (poolL w0.heap.size ps) :: Rs.set i .none) from by
      have h := HP.out.drop1.drop1
      rw [HPE.out, show p = ⟨pn, .slice Ap 64 cp, p.b⟩ from by rw [← HPN.out, ← HPV.out]]
      exact h))
    clear HP
    go_wp2_with fail
    exact bodyPost_end (v := .tuple #[]) (by simp [results, Try.results57, go_sem]) rfl ⟨rfl, HPF.out⟩
def flushRE (R : RS) : Int := if R.out = true ∨ stepB R = false then 10 else 0
def flushR (R : RS) : RS := if R.out = true then R else if stepB R = false then stepR R else { stepR R with firm := (stepR R).soft.foldl putP (stepR R).firm, soft := [] }
theorem foldP_len : ∀ (l F : List Pt), (l.foldl putP F).length ≤ F.length + l.length
  | [], F => by simp
  | p :: l, F => by
    rw [List.foldl_cons, List.length_cons]
    have := foldP_len l (putP F p)
    have := putP_len F p
    omega
theorem fold_take (l F : List Pt) (j : Nat) (p : Pt) (hj : l[j]? = some p) : (l.take (j + 1)).foldl putP F = putP ((l.take j).foldl putP F) p := by
  have hl : j < l.length := (List.getElem?_eq_some_iff.1 hj).1
  rw [List.take_succ_eq_append_getElem hl, List.foldl_append]
  rw [show l[j] = p from by rw [List.getElem?_eq_getElem hl] at hj; exact Option.some.inj hj]
  rfl
set_option maxHeartbeats 8000000 in
set_option maxRecDepth 100000 in
theorem c_rflush {w0 w : World} {Rs : List Res} (HP0 : Hp w0 w Rs) (i g : Nat) (R : RS) (ex : List Pt) (hi : Rs[i]? = some (rRef w0.heap.size g R ex)) (hls : R.soft.length ≤ 100000) (hlf : R.firm.length ≤ 100000) :
    Calls Try.prog 55 #[.pointer (some ⟨g, 0, none⟩)] w fun e w' => e = .returned (.int .i64 (flushRE R)) ∧ Hp w0 w' (Rs.set i (rRef w0.heap.size g (flushR R) ex)) := by
  have HH := Aside0.mk HP0
  have HI2 := Aside0.mk hi
  have HSELF := Aside0.mk (show Rs.set i (rRef w0.heap.size g R ex) = Rs from set_self hi)
  have HLL := Aside0.mk (And.intro hls hlf)
  have HRB := Aside0.mk (stepR_same R)
  obtain ⟨v1, v2, ps, hm, HP1⟩ := Hp.openR HP0 i g R ex hi
  have hil : i < Rs.length := (List.getElem?_eq_some_iff.1 hi).1
  have HP := Aside0.mk HP1
  have HM := Aside0.mk hm
  have HI := Aside0.mk hil
  clear HP0 HP1 hm hil
  have hc6 : w.cell? ⟨g, 6, none⟩ = some (.bool R.out) := blk_cell (HP.out.blk 0 rfl) 6
  have HFE : Aside0 (flushRE R = if R.out = true ∨ stepB R = false then 10 else 0) := ⟨rfl⟩
  have HFR : Aside0 (flushR R = if R.out = true then R else if stepB R = false then stepR R else { stepR R with firm := (stepR R).soft.foldl putP (stepR R).firm, soft := [] }) := ⟨rfl⟩
  obtain ⟨o, ho⟩ : ∃ z, R.out = z := ⟨_, rfl⟩
  rw [ho] at hc6
  have HO := Aside0.mk ho
  clear ho hls hlf hi HP HM
  cases o with
  | true =>
    have HE := Aside0.mk (show flushRE R = 10 ∧ flushR R = R from ⟨by rw [HFE.out, if_pos (.inl HO.out)], by rw [HFR.out, if_pos HO.out]⟩)
    go_enter Try.func55, Try.ntmps55
    go_wp2_with fail
    go_ret
    exact ⟨by rw [HE.out.1]; rfl, by rw [HE.out.2, HSELF.out]; exact HH.out⟩
  | false =>
    go_enter Try.func55, Try.ntmps55
    go_wp2_with fail
    refine (c_rstep HH.out i g R ex HI2.out).mono ?_; rintro e w1 ⟨rfl, hpn⟩
    clear hc6 HH
    obtain ⟨sb, hsb⟩ : ∃ z, stepB R = z := ⟨_, rfl⟩
    rw [hsb] at HFE HFR ⊢
    clear hsb
    cases sb with
    | false =>
      have HE := Aside0.mk (show flushRE R = 10 ∧ flushR R = stepR R from ⟨by rw [HFE.out]; simp, by rw [HFR.out, if_neg (by rw [HO.out]; decide), if_pos rfl]⟩)
      go_wp2_with fail
      go_ret
      exact ⟨by rw [HE.out.1]; rfl, by rw [HE.out.2]; exact hpn⟩
    | true =>
      have HE := Aside0.mk (show flushRE R = 0 ∧ flushR R = { stepR R with firm := (stepR R).soft.foldl putP (stepR R).firm, soft := [] } from ⟨by rw [HFE.out, HO.out]; simp, by rw [HFR.out, if_neg (by rw [HO.out]; decide), if_neg (by decide)]⟩)
      have HLT := Aside0.mk (show (stepR R).soft.length ≤ 100000 ∧ (stepR R).firm.length ≤ 100000 from by rw [HRB.out.1, HRB.out.2.1]; exact HLL.out)
      obtain ⟨T, hT⟩ : ∃ z, stepR R = z := ⟨_, rfl⟩
      rw [hT] at HE HLT hpn
      clear hT
      have HP1 := Aside0.mk (show Hp w0 w1 (Rs.set i (rRef w0.heap.size g { T with firm := (T.soft.take 0).foldl putP T.firm } ex)) from hpn)
      clear hpn
      go_wp2_with fail
      go_loopg [3] T.soft.length (fun kq v3 w' => ∃ (j : Nat) (x : Int), v3 = .int .i64 x ∧ Aside0 (x = (j : Int)) ∧ Aside0 (kq + j = T.soft.length) ∧ Aside0 (Hp w0 w' (Rs.set i (rRef w0.heap.size g { T with firm := (T.soft.take j).foldl putP T.firm } ex))))
      case atStart => exact ⟨0, 0, rfl, ⟨rfl⟩, ⟨rfl⟩, HP1⟩
      clear HP1
      obtain ⟨j, x, rfl, HX, HK, HP⟩ := hrel
      have hx := HX.out
      have hk := HK.out
      have hlt := HLT.out.1
      obtain ⟨v1, v2, ps, hm, HP2⟩ := Hp.openR HP.out i g { T with firm := (T.soft.take j).foldl putP T.firm } ex (set_get _ HI.out)
      rw [List.set_set] at HP2
      obtain ⟨A2, c2, rfl⟩ := Kd.R_slice (HP2.row 2 rfl)
      have hc2 := (blk_cell (HP2.blk 0 rfl) 2).trans (show _ = some (Value.slice A2 T.soft.length c2) from rfl)
      by_cases c1_ : j < T.soft.length
      · have d1 : decide (x < (T.soft.length : Int)) = true := decide_eq_true (by omega)
        have ex_ := i64k (x := x + 1) rfl (by omega)
        obtain ⟨p, hp⟩ : ∃ p, T.soft[j]? = some p := ⟨_, List.getElem?_eq_getElem c1_⟩
        obtain ⟨bA, oA, rfl⟩ := C_addrK (by decide) (Kd.R_reads' (HP2.row 2 rfl)).2.2 (show 0 < T.soft.length by omega)
        obtain ⟨hcn, hcv⟩ := cellsP (Kd.R_reads' (HP2.row 2 rfl)).2.2 hp
        have hxj : x.toNat = j := by omega
        have p0 : 0 ≤ x := by omega
        have q0 : x < (T.soft.length : Int) := by omega
        rw [← hxj] at hcn hcv
        have hpm : p ∈ T.soft := by obtain ⟨h1, h2⟩ := List.getElem?_eq_some_iff.1 hp; rw [← h2]; exact List.getElem_mem h1
        have CF := Aside0.mk (c_rfirm HP.out i g { T with firm := (T.soft.take j).foldl putP T.firm } ex (set_get _ HI.out) (by have h1 := foldP_len (T.soft.take j) T.firm; have h2 := List.length_take_le j T.soft; have := HLT.out.2; show ((T.soft.take j).foldl putP T.firm).length ≤ 1000000; rw [List.length_take] at h1; omega) p (List.mem_append_right _ (List.mem_append_left _ hpm)))
        have HFT := Aside0.mk (fold_take T.soft T.firm j p hp)
        have HJ := Aside0.mk c1_
        obtain ⟨pn, hpn_⟩ : ∃ z, p.n = z := ⟨_, rfl⟩
        obtain ⟨pv, hpv_⟩ : ∃ z, p.v = z := ⟨_, rfl⟩
        obtain ⟨Ap, cp, epv, _, _⟩ := pool_C HP2 3 rfl (hm p (List.mem_append_right _ (List.mem_append_left _ hpm)))
        rw [hpn_] at hcn CF
        rw [hpv_] at hcv CF epv
        subst epv
        clear hx hk hlt c1_ hp hxj HP2 hm hpm hpn_ hpv_ HP
        go_wp2_with fail
        refine CF.out.mono ?_; rintro e w6 ⟨rfl, hpn⟩
        rw [List.set_set] at hpn
        have HPn := Aside0.mk (show Hp w0 w6 (Rs.set i (rRef w0.heap.size g { T with firm := (T.soft.take (j + 1)).foldl putP T.firm } ex)) from by rw [HFT.out]; exact hpn)
        clear hpn hcn hcv hc2
        go_wp2_with fail
        go_roundg (gk - 1)
        case measure => have := HK.out; have := HJ.out; omega
        case rel => exact ⟨j + 1, x + 1, rfl, ⟨by have := HX.out; omega⟩, ⟨by have := HK.out; have := HJ.out; omega⟩, HPn⟩
      · have d1 : decide (x < (T.soft.length : Int)) = false := decide_eq_false (by omega)
        obtain rfl : j = T.soft.length := by omega
        have HP3 := Aside0.mk HP2
        have HM := Aside0.mk hm
        have hf2 := blk_frozen (HP3.out.blk 0 rfl) 2
        have HPn := Aside0.mk (HP3.out.setCell 0 rfl 2 (.slice none 0 0))
        clear hx hk hlt c1_ HP HP2 hm HP3
        go_wp2_with fail
        go_ret
        refine ⟨by rw [HE.out.1]; rfl, ?_⟩
        rw [HE.out.2]
        have h1 := Hp.nilrow HPn.out KPt 102 (.slice none 0 0) (fun ok => Kd.R_nil KPt 102 _ _ ok)
        have HMm := HM.out
        rw [List.take_length] at HMm h1
        have h2 := Hp.perm h1 (Rs' := .row KPt 102 w0.heap.size (.slice A2 T.soft.length c2) T.soft :: .blk g (.cells (refC { T with firm := T.soft.foldl putP T.firm, soft := [] } v1 (.slice none 0 0)).toArray 72 (0, 0)) :: .row KPt 102 w0.heap.size v1 (T.soft.foldl putP T.firm) :: .row KPt 102 w0.heap.size (.slice none 0 0) [] :: .all (poolL w0.heap.size ps) :: Rs.set i .none) (by
          show List.Perm (_ :: _ :: _ :: _ :: _ :: Rs.set i .none) _
          have p1 : ∀ (a b c d e : Res) (l : List Res), List.Perm (a :: b :: c :: d :: e :: l) (d :: b :: c :: a :: e :: l) := fun a b c d e l =>
            ((List.Perm.cons a (((List.Perm.swap d c (e :: l)).cons b).trans (List.Perm.swap d b (c :: e :: l)))).trans (List.Perm.swap d a (b :: c :: e :: l))).trans (List.Perm.cons d ((List.Perm.swap b a (c :: e :: l)).trans (List.Perm.cons b (List.Perm.swap c a (e :: l)))))
          exact p1 _ _ _ _ _ _)
        exact Hp.closeR { T with firm := T.soft.foldl putP T.firm, soft := [] } ex (fun p hp => HMm p (by
          simp only [List.mem_append, List.not_mem_nil, false_or] at hp ⊢
          rcases hp with h | h
          · exact .inl h
          · exact .inr (.inr h))) HI.out h2.drop1
end Go.Proofs.Ytgflghnbpbiakaa.Su
namespace Go.Proofs.Ytgflghnbpbiakaa.Su
open Go.Proofs.Ytgflghnbpbiakaa.H hiding C_ints cellL cellN ev_copy ev_store_mid frozC i64k run_cut_all run_cut_arr run_cut_to setL set_self
open Go.RowKit Go.Proofs.Ytgflghnbpbiakaa.XH Go.Proofs.YtgflghnbpbiakaaW.PrintWords Go.Proofs.YtgflghnbpbiakaaW.PrintLast Go.Proofs.YtgflghnbpbiakaaW.PrintMore Go.Proofs.YtgflghnbpbiakaaXe Go.Proofs.YtgflghnbpbiakaaXs
set_option linter.unusedVariables false
set_option linter.unusedSimpArgs false
attribute [local go_sem ↓] Go.wp_at_zero Go.wp_at_succ
attribute [local go_sem] valUpon
open Go.Proofs.Ytgflghnbpbiakaa.D hiding c_len c_new c_write
def lastF (n : Int) (a : Option Pt) (l : List Pt) : Option Pt := l.foldl (fun a p => if p.n = n then some p else a) a
theorem lastF_none (n : Int) : ∀ (l : List Pt) (a : Option Pt), (∀ q ∈ l, q.n ≠ n) → lastF n a l = a
  | [], a, _ => rfl
  | x :: l, a, h => by
    show lastF n (if x.n = n then some x else a) l = a
    rw [if_neg (h x List.mem_cons_self)]
    exact lastF_none n l a (fun q hq => h q (List.mem_cons_of_mem _ hq))
theorem lastF_ne (k : Int) (p : Pt) (h : p.n ≠ k) : ∀ (l : List Pt) (a : Option Pt), lastF k a (putP l p) = lastF k a l
  | [], a => by
    show (if p.n = k then some p else a) = a
    rw [if_neg h]
  | x :: l, a => by
    rw [putP]
    split
    · rename_i e
      show lastF k (if x.n = k then _ else a) l = lastF k (if x.n = k then some x else a) l
      rw [if_neg (by rw [e]; exact h), if_neg (by rw [e]; exact h)]
    · show lastF k (if x.n = k then some x else a) (putP l p) = lastF k (if x.n = k then some x else a) l
      exact lastF_ne k p h l _
def uniqP (l : List Pt) : Prop := (l.map Pt.n).Nodup
theorem lastF_eq (p : Pt) : ∀ (l : List Pt) (a : Option Pt), uniqP l → ∃ q, lastF p.n a (putP l p) = some q ∧ q.b = p.b
  | [], a, _ => ⟨p, by show (if p.n = p.n then some p else a) = some p; rw [if_pos rfl], rfl⟩
  | x :: l, a, h => by
    have h1 : x.n ∉ l.map Pt.n := (List.nodup_cons.1 h).1
    have h2 : uniqP l := (List.nodup_cons.1 h).2
    rw [putP]
    split
    · rename_i e
      refine ⟨⟨x.n, p.v, p.b⟩, ?_, rfl⟩
      show lastF p.n (if x.n = p.n then some ⟨x.n, p.v, p.b⟩ else a) l = _
      rw [if_pos e, lastF_none p.n l _ (fun q hq e2 => h1 (by rw [e, ← e2]; exact List.mem_map_of_mem hq))]
    · rename_i e
      show ∃ q, lastF p.n (if x.n = p.n then some x else a) (putP l p) = some q ∧ q.b = p.b
      rw [if_neg e]
      exact lastF_eq p l a h2
theorem putP_map : ∀ (l : List Pt) (p : Pt), (putP l p).map Pt.n = l.map Pt.n ∨ ((putP l p).map Pt.n = l.map Pt.n ++ [p.n] ∧ p.n ∉ l.map Pt.n)
  | [], p => .inr ⟨rfl, by simp⟩
  | x :: l, p => by
    rw [putP]
    split
    · exact .inl rfl
    · rename_i e
      rcases putP_map l p with h | ⟨h, h2⟩
      · exact .inl (by rw [List.map_cons, h]; rfl)
      · refine .inr ⟨by rw [List.map_cons, h]; rfl, ?_⟩
        rw [List.map_cons, List.mem_cons]
        rintro (h3 | h3)
        · exact e h3.symm
        · exact h2 h3
theorem uniq_put {l : List Pt} (p : Pt) (h : uniqP l) : uniqP (putP l p) := by
  unfold uniqP at h ⊢
  rcases putP_map l p with h1 | ⟨h1, h2⟩
  · rw [h1]; exact h
  · rw [h1, List.nodup_append]
    refine ⟨h, by simp, fun a ha b hb => ?_⟩
    rw [List.mem_singleton.1 hb]
    rintro rfl
    exact h2 ha
def firmB (l : List Pt) (n : Int) : List Int := match lastP l n with | some p => p.b | none => s64'
theorem firmB_put {l : List Pt} (p : Pt) (h : uniqP l) : firmB (putP l p) = put1 (firmB l) p.n p.b := by
  funext k
  unfold firmB put1
  by_cases e : p.n = k
  · subst e
    rw [if_pos rfl]
    obtain ⟨q, h1, h2⟩ := lastF_eq p l none h
    rw [show lastP (putP l p) p.n = some q from h1]
    exact h2
  · rw [if_neg e, show lastP (putP l p) k = lastP l k from lastF_ne k p e l none]
theorem put1_self (f : Int → List Int) (n : Int) (b : List Int) : put1 f n (b.take 0 ++ (f n).drop 0) = f := by
  funext k
  unfold put1
  rw [List.take_zero, List.nil_append, List.drop_zero]
  split
  · rename_i e; rw [e]
  · rfl
def nbP (l : List Pt) : List (Int × List Int) := l.map fun p => (p.n, p.b)
theorem crashG_cons {keep : List Bool} {l : List Pt} {j : Nat} {p : Pt} (hj : l[j]? = some p) (torn : Int) (f : Int → List Int) : crashG keep (nbP (l.drop j)) j torn f = if keep[j]? = some true then crashG keep (nbP (l.drop (j + 1))) (j + 1) torn (put1 f p.n p.b) else crashG keep (nbP (l.drop (j + 1))) (j + 1) 0 (put1 f p.n (p.b.take torn.toNat ++ (f p.n).drop torn.toNat)) := by
  obtain ⟨h1, h2⟩ := List.getElem?_eq_some_iff.1 hj
  rw [List.drop_eq_getElem_cons h1, h2]
  rfl
/-- a row of bytes joins the pool -/
theorem Hp.adopt {w0 w : World} {Rs : List Res} {v : Value} {b : List Int} (h : Hp w0 w (.row (Kd.int .u8) 5 w0.heap.size v b :: Rs)) (i g : Nat) (R : RS) (ex : List Pt) (hi : Rs[i]? = some (rRef w0.heap.size g R ex)) (n : Int) (hl : b.length = 64) (hB : Bytes b) : Hp w0 w (Rs.set i (rRef w0.heap.size g R (⟨n, v, b⟩ :: ex))) := by
  have hil : i < Rs.length := (List.getElem?_eq_some_iff.1 hi).1
  obtain ⟨v1, v2, ps, hm, HP1⟩ := Hp.openR h (i + 1) g R ex hi
  have h2 := Hp.perm HP1 (Rs' := .row (Kd.int .u8) 5 w0.heap.size v b :: .blk g (.cells (refC R v1 v2).toArray 72 (0, 0)) :: .row KPt 102 w0.heap.size v1 R.firm :: .row KPt 102 w0.heap.size v2 R.soft :: .all (poolL w0.heap.size ps) :: Rs.set i .none) (List.perm_middle (l₁ := [_, _, _, _]) (l₂ := Rs.set i .none))
  have h3 := Hp.join h2 3 rfl
  refine Hp.closeR R (⟨n, v, b⟩ :: ex) (ps := (v, b) :: ps) (fun p hp => ?_) hil h3
  have hp2 : p ∈ R.firm ++ (R.soft ++ ex) ∨ p = ⟨n, v, b⟩ := by
    simp only [List.mem_append, List.mem_cons] at hp ⊢
    rcases hp with h | h | h | h
    · exact .inl (.inl h)
    · exact .inl (.inr (.inl h))
    · exact .inr h
    · exact .inl (.inr (.inr h))
  rcases hp2 with h4 | rfl
  · obtain ⟨k1, k2, k3⟩ := hm p h4
    exact ⟨List.mem_cons_of_mem _ k1, k2, k3⟩
  · exact ⟨List.mem_cons_self, hl, hB⟩
theorem pool_read {w0 w : World} {Rs : List Res} (h : Hp w0 w Rs) (i g : Nat) (R : RS) (ex : List Pt) (hi : Rs[i]? = some (rRef w0.heap.size g R ex)) (p : Pt) (hp : p ∈ R.firm ++ (R.soft ++ ex)) : ∃ bA oA c, p.v = .slice (some ⟨bA, oA, none⟩) 64 c ∧ 64 ≤ c ∧ p.b.length = 64 ∧ Bytes p.b ∧ ∀ w'' (Rs2 : List Res) (R2 : RS) (ex2 : List Pt) (i2 : Nat), Hp w0 w'' Rs2 → Rs2[i2]? = some (rRef w0.heap.size g R2 ex2) → p ∈ R2.firm ++ (R2.soft ++ ex2) → Kd.C (Kd.int .u8) w'' (some ⟨bA, oA, none⟩) 64 p.b := by
  obtain ⟨v1, v2, ps, hm, HP1⟩ := Hp.openR h i g R ex hi
  obtain ⟨A, c, e1, e2, e3⟩ := pool_C HP1 3 rfl (hm p hp)
  obtain ⟨bA, oA, rfl⟩ := C_addr e3 (by decide) (C_len e3)
  refine ⟨bA, oA, c, e1, e2, (hm p hp).2.1, (hm p hp).2.2, fun w'' Rs2 R2 ex2 i2 h2 hi2 hp2 => ?_⟩
  obtain ⟨v1', v2', ps', hm', HP1'⟩ := Hp.openR h2 i2 g R2 ex2 hi2
  obtain ⟨A', c', k1, k2, k3⟩ := pool_C HP1' 3 rfl (hm' p hp2)
  rw [e1] at k1
  cases k1
  exact k3
theorem firmB_ok {l : List Pt} (h : ∀ p ∈ l, p.b.length = 64 ∧ Bytes p.b) (n : Int) : (firmB l n).length = 64 ∧ Bytes (firmB l n) := by
  unfold firmB
  cases e : lastP l n with
  | none => exact ⟨rfl, s64'_b⟩
  | some p => exact h p (lastP_mem l n p e).1
set_option maxHeartbeats 8000000 in
set_option maxRecDepth 100000 in
theorem c_rcrashE {w0 w : World} {Rs : List Res} (HP0 : Hp w0 w Rs) (i g : Nat) (R : RS) (ex : List Pt) (hi : Rs[i]? = some (rRef w0.heap.size g R ex)) (kv : Value) (torn : Int) (h0 : torn < 0 ∨ 63 < torn) :
    Calls Try.prog 33 #[.pointer (some ⟨g, 0, none⟩), kv, .int .i64 torn] w fun e w' => e = .returned (.int .i64 2) ∧ w' = w := by
  clear HP0 hi
  by_cases h1 : torn < 0
  · have d1 : decide (torn < 0) = true := decide_eq_true h1
    clear h0 h1
    go_enter Try.func33, Try.ntmps33
    go_wp2_with fail
    go_ret
    exact ⟨rfl, rfl⟩
  · have d1 : decide (torn < 0) = false := decide_eq_false h1
    have d2 : decide (torn > 63) = true := decide_eq_true (by omega)
    clear h0 h1
    go_enter Try.func33, Try.ntmps33
    go_wp2_with fail
    go_ret
    exact ⟨rfl, rfl⟩
set_option maxHeartbeats 8000000 in
set_option maxRecDepth 100000 in
theorem c_rcrash {w0 w : World} {Rs : List Res} (HP0 : Hp w0 w Rs) (i g : Nat) (R : RS) (ex : List Pt) (hi : Rs[i]? = some (rRef w0.heap.size g R ex)) (hls : R.soft.length ≤ 100000) (hlf : R.firm.length ≤ 100000) (hu : uniqP R.firm) (Ak : Option Addr) (ck : Nat) (keep : List Bool) (hkl : keep.length ≤ 9223372036854775807) (hB : ∀ w' : World, Below w0.heap.size w0 w' → Kd.C Kd.bool w' Ak keep.length keep) (torn : Int) (ht : 0 ≤ torn ∧ torn ≤ 63) :
    Calls Try.prog 33 #[.pointer (some ⟨g, 0, none⟩), .slice Ak keep.length ck, .int .i64 torn] w fun e w' => e = .returned (.int .i64 0) ∧ ∃ F ex2, uniqP F ∧ F.length ≤ R.firm.length + R.soft.length ∧ firmB F = crashG keep (nbP R.soft) 0 torn (firmB R.firm) ∧ Hp w0 w' (Rs.set i (rRef w0.heap.size g { R with firm := F, soft := [], has := false, left := 0, out := false } ex2)) := by
  have HLL := Aside0.mk (And.intro hls hlf)
  have HU := Aside0.mk hu
  have HB := Aside0.mk hB
  obtain ⟨v1, v2, ps, hm, HP1⟩ := Hp.openR HP0 i g R ex hi
  have hil : i < Rs.length := (List.getElem?_eq_some_iff.1 hi).1
  have HP := Aside0.mk HP1
  have HM := Aside0.mk hm
  have HI := Aside0.mk hil
  clear HP0 HP1 hm hil
  obtain ⟨A2, c2, rfl⟩ := Kd.R_slice (HP.out.row 2 rfl)
  have d1 : decide (torn < 0) = false := decide_eq_false (by omega)
  have d2 : decide (torn > 63) = false := decide_eq_false (by omega)
  have HT := Aside0.mk ht
  have hc2 : w.cell? ⟨g, 2, none⟩ = some (.slice A2 R.soft.length c2) := blk_cell (HP.out.blk 0 rfl) 2
  have hf2 := blk_frozen (HP.out.blk 0 rfl) 2
  have HPs := Aside0.mk (show Hp w0 (w.setCell ⟨g, 2, none⟩ (.slice none 0 0)) (.row KPt 102 w0.heap.size (.slice A2 R.soft.length c2) R.soft :: Rs.set i (rRef w0.heap.size g { R with soft := [] } (R.soft ++ ex))) from by
    have h0 := HP.out.setCell 0 rfl 2 (.slice none 0 0)
    have h1 := Hp.nilrow h0 KPt 102 (.slice none 0 0) (fun ok => Kd.R_nil KPt 102 _ _ ok)
    have p1 : ∀ (a b c d e : Res) (l : List Res), List.Perm (a :: b :: c :: d :: e :: l) (b :: c :: a :: e :: d :: l) := fun a b c d e l =>
      ((List.Perm.swap b a (c :: d :: e :: l)).trans (List.Perm.cons b (List.Perm.swap c a (d :: e :: l)))).trans (List.Perm.cons b (List.Perm.cons c (List.Perm.cons a (List.Perm.swap e d l))))
    have h2 := Hp.perm h1 (Rs' := .blk g (.cells (refC { R with soft := [] } v1 (.slice none 0 0)).toArray 72 (0, 0)) :: .row KPt 102 w0.heap.size v1 R.firm :: .row KPt 102 w0.heap.size (.slice none 0 0) [] :: .all (poolL w0.heap.size ps) :: (.row KPt 102 w0.heap.size (.slice A2 R.soft.length c2) R.soft :: Rs).set (i + 1) .none) (p1 _ _ _ _ _ _)
    exact Hp.closeR (i := i + 1) { R with soft := [] } (R.soft ++ ex) (fun p hp => HM.out p (by
      simp only [List.mem_append, List.not_mem_nil, false_or] at hp ⊢
      exact hp)) (by rw [List.length_cons]; have := HI.out; omega) h2)
  clear hi hls hlf hu hB ht HP HM
  go_enter Try.func33, Try.ntmps33
  go_wp2_with fail
  clear hc2 hf2
  go_loopg [2, 8, 9] R.soft.length (fun kq vt v8 v9 w' => ∃ (j : Nat) (x t : Int) (F ex2 : List Pt), vt = .int .i64 t ∧ v8 = .int .i64 x ∧ Aside0 (x = (j : Int)) ∧ Aside0 (kq + j = R.soft.length) ∧ Aside0 (0 ≤ t ∧ t ≤ 63) ∧ Aside0 (uniqP F ∧ F.length ≤ R.firm.length + j ∧ (∀ p ∈ R.soft, p ∈ ex2) ∧ crashG keep (nbP (R.soft.drop j)) j t (firmB F) = crashG keep (nbP R.soft) 0 torn (firmB R.firm)) ∧ Aside0 (Hp w0 w' (.row KPt 102 w0.heap.size (.slice A2 R.soft.length c2) R.soft :: Rs.set i (rRef w0.heap.size g { R with firm := F, soft := [] } ex2))))
  case atStart => exact ⟨0, 0, torn, R.firm, R.soft ++ ex, rfl, rfl, ⟨rfl⟩, ⟨rfl⟩, HT, ⟨HU.out, Nat.le_refl _, fun p hp => List.mem_append_left _ hp, rfl⟩, HPs⟩
  clear HPs HU HT
  obtain ⟨j, x, t, F, ex2, rfl, rfl, HX, HK, HT, HF, HP⟩ := hrel
  have hx := HX.out
  have hk := HK.out
  have hll := HLL.out
  by_cases c1_ : j < R.soft.length
  · have d3 : decide (x < (R.soft.length : Int)) = true := decide_eq_true (by omega)
    have ex_ := i64k (x := x + 1) rfl (by omega)
    obtain ⟨p, hp⟩ : ∃ p, R.soft[j]? = some p := ⟨_, List.getElem?_eq_getElem c1_⟩
    obtain ⟨bA, oA, rfl⟩ := C_addrK (by decide) (Kd.R_reads' (HP.out.row 0 rfl)).2.2 (show 0 < R.soft.length by omega)
    have hxj : x.toNat = j := by omega
    have HC := Aside0.mk (fun (w' : World) (Rs2 : List Res) (k : Nat) (h : Hp w0 w' Rs2) (hk : Rs2[k]? = some (.row KPt 102 w0.heap.size (.slice (some ⟨bA, oA, none⟩) R.soft.length c2) R.soft)) => cellsP (Kd.R_reads' (h.row k hk)).2.2 hp)
    have p0 : 0 ≤ x := by omega
    have q0 : x < (R.soft.length : Int) := by omega
    rw [← hxj] at HC
    have hpm : p ∈ R.soft := by obtain ⟨h1, h2⟩ := List.getElem?_eq_some_iff.1 hp; rw [← h2]; exact List.getElem_mem h1
    have hpx : p ∈ ex2 := HF.out.2.2.1 p hpm
    have HPX := Aside0.mk hpx
    obtain ⟨bp, op, cp, epv, hcp, hbl, hbb, hrd⟩ := pool_read HP.out (i + 1) g { R with firm := F, soft := [] } ex2 (set_get (α := Res) (l := Rs) _ HI.out) p (List.mem_append_right _ (List.mem_append_right _ hpx))
    have HPB := Aside0.mk (And.intro hcp (And.intro hbl hbb))
    have HRD := Aside0.mk hrd
    have HG := Aside0.mk (crashG_cons (keep := keep) hp t (firmB F))
    have HJ := Aside0.mk (And.intro c1_ (And.intro hxj hp))
    have CF := Aside0.mk (fun (q : Pt) (w : World) (Rs2 : List Res) (k : Nat) (ex3 : List Pt) (h : Hp w0 w Rs2) (hk : Rs2[k]? = some (rRef w0.heap.size g { R with firm := F, soft := [] } ex3)) (hq : q ∈ ex3) => c_rfirm h k g { R with firm := F, soft := [] } ex3 hk (by show F.length ≤ 1000000; have := HF.out.2.1; have := HLL.out; omega) q (List.mem_append_right _ (List.mem_append_right _ hq)))
    have CN := Aside0.mk (fun (n : Int) (w : World) (Rs2 : List Res) (k : Nat) (h : Hp w0 w Rs2) (hk : Rs2[k]? = some (rRef w0.heap.size g { R with firm := F, soft := [] } ex2)) => c_rnow h k g { R with firm := F, soft := [] } ex2 hk (by show ([] : List Pt).length ≤ 1000000; decide) (by show F.length ≤ 1000000; have := HF.out.2.1; have := HLL.out; omega) n)
    have HSG := Aside0.mk (set_get (α := Res) (l := Rs) (rRef w0.heap.size g { R with firm := F, soft := [] } ex2) HI.out)
    obtain ⟨pn, hpn_⟩ : ∃ z, p.n = z := ⟨_, rfl⟩
    obtain ⟨pv, hpv_⟩ : ∃ z, p.v = z := ⟨_, rfl⟩
    have HPN := Aside0.mk (And.intro hpn_ hpv_)
    rw [hpn_] at HC HG
    rw [hpv_] at HC epv
    subst epv
    have hkl2 : keep.length ≤ 9223372036854775807 := hkl
    have hcns := HC.out _ _ 0 HP.out rfl
    obtain ⟨hcn, hcv⟩ := hcns
    by_cases ck1 : j < keep.length
    · have dk : decide (x < (keep.length : Int)) = true := decide_eq_true (by omega)
      have qk : x < (keep.length : Int) := by omega
      obtain ⟨ak, hak, hck⟩ := Kd.at_bool (HB.out wr HP.out.below) x p0 qk
      subst hak
      have hkv : keep[j]? = some (Go.Proofs.YtgflghnbpbiakaaW.PrintWords.rdOf false keep x) := by
        unfold Go.Proofs.YtgflghnbpbiakaaW.PrintWords.rdOf
        rw [hxj, List.getD_eq_getElem?_getD, List.getElem?_eq_getElem ck1]
        rfl
      obtain ⟨kb, hkb⟩ : ∃ z, Go.Proofs.YtgflghnbpbiakaaW.PrintWords.rdOf false keep x = z := ⟨_, rfl⟩
      rw [hkb] at hck hkv
      clear hx hk hll c1_ hp hxj hpm hpx hcp hbl hbb hrd hpn_ hpv_ ck1 hkb hkl hkl2
      cases kb with
      | true =>
        have HGG := Aside0.mk (show crashG keep (nbP (R.soft.drop (j + 1))) (j + 1) t (firmB (putP F p)) = crashG keep (nbP R.soft) 0 torn (firmB R.firm) from by
          rw [← HF.out.2.2.2, HG.out, if_pos hkv, firmB_put p HF.out.1, HPN.out.1])
        clear hkv
        go_wp2_with fail
        have CC := Aside0.mk (CF.out p _ _ (i + 1) ex2 HP.out HSG.out HPX.out)
        rw [HPN.out.1, HPN.out.2] at CC
        refine CC.out.mono ?_; rintro e w6 ⟨rfl, hpn⟩
        have HPn := Aside0.mk (show Hp w0 w6 (.row KPt 102 w0.heap.size (.slice (some ⟨bA, oA, none⟩) R.soft.length c2) R.soft :: Rs.set i (rRef w0.heap.size g { R with firm := putP F p, soft := [] } ex2)) from by
          have h : Hp w0 w6 (_ :: (Rs.set i _).set i (rRef w0.heap.size g { R with firm := putP F p, soft := [] } ex2)) := hpn
          rw [List.set_set] at h
          exact h)
        clear hpn CC hcn hcv hck
        go_wp2_with fail
        go_roundg (gk - 1)
        case measure => have := HK.out; have := HJ.out.1; omega
        case rel => exact ⟨j + 1, x + 1, t, putP F p, ex2, rfl, rfl, ⟨by have := HX.out; omega⟩, ⟨by have := HK.out; have := HJ.out.1; omega⟩, HT, ⟨uniq_put p HF.out.1, by have := putP_len F p; have := HF.out.2.1; omega, HF.out.2.2.1, HGG.out⟩, HPn⟩
      | false =>
        have HNK := Aside0.mk (show ¬ keep[j]? = some true from by rw [hkv]; decide)
        clear hkv
        by_cases ct : 0 < t
        · have dt : decide (t > 0) = true := decide_eq_true ct
          have ht := HT.out
          have hrunA : ∀ w : World, (Instr.slice 26 (.slice (some ⟨bp, op, none⟩) 64 cp) none (some (.int .i64 t)) none).run Try.prog w = .ok (.slice (some ⟨bp, op, none⟩) t.toNat cp) w := fun w => by
            have h := D.to8 (some ⟨bp, op, none⟩) cp p.b t.toNat (by rw [HPB.out.2.1]; omega) (by rw [HPB.out.2.1]; exact HPB.out.1) t (by omega) w
            rwa [HPB.out.2.1] at h
          have HTN := Aside0.mk (show t.toNat ≤ 63 ∧ ((t.toNat : Nat) : Int) = t by omega)
          have q63 : t ≤ 64 := by omega
          have q0t : 0 ≤ t := by omega
          have HFB := Aside0.mk (show (firmB F pn).length = 64 ∧ Bytes (firmB F pn) from by
            obtain ⟨u1, u2, qs, hm, _⟩ := Hp.openR HP.out (i + 1) g { R with firm := F, soft := [] } ex2 HSG.out
            exact firmB_ok (fun p hp => ⟨(hm p (List.mem_append_left _ hp)).2.1, (hm p (List.mem_append_left _ hp)).2.2⟩) pn)
          clear ct ht hcn hcv
          go_wp2_with (first | ((with_reducible refine gate_dst (N := 47) rfl ?_); refine ev_run rfl (w1 := wr.alloc (.cells #[] 5 (0, 0))) (v := .slice (some ⟨wr.heap.size, 0, none⟩) 0 0) ?hrLa ?_; (case hrLa => first | (go_simp; done) | (go_simp; rfl)); have HPn := Aside0.mk (show Hp w0 (wr.alloc (.cells #[] 5 (0, 0))) (.row (Kd.int .u8) 5 w0.heap.size (.slice (some ⟨wr.heap.size, 0, none⟩) 0 0) [] :: _) from HP.out.lit 5 (d := Kd.int .u8) (xs := []) (inner := []) (reps_ints .u8 _ _ []) (by decide)); clear HP; have HP := HPn; clear HPn; obtain ⟨w7, hw7⟩ : ∃ z, wr.alloc (.cells #[] 5 (0, 0)) = z := ⟨_, rfl⟩; obtain ⟨A7, hA7⟩ : ∃ z : Option Addr, some ⟨wr.heap.size, 0, none⟩ = z := ⟨_, rfl⟩; rw [hw7, hA7] at HP; rw [hw7, hA7]; clear hw7 hA7; obtain ⟨hcn, hcv⟩ := HC.out _ _ 1 HP.out rfl))
          refine (CN.out pn _ _ (i + 2) HP.out HSG.out).mono ?_; rintro e w8 ⟨bN, oN, cN, X, rfl, hcN, hpn, hCN⟩
          clear HP
          have HP := Aside0.mk hpn
          have HCN := Aside0.mk (show Kd.C (Kd.int .u8) w8 (some ⟨bN, oN, none⟩) 64 (firmB F pn) from hCN w8 hpn)
          obtain ⟨nb, hnb⟩ : ∃ z, firmB F pn = z := ⟨_, rfl⟩
          have HNB := Aside0.mk hnb
          rw [hnb] at HCN HFB
          clear hpn hCN hcN hcn hcv hnb
          go_wp2_with (first | ((with_reducible refine gate_dst (N := 55) rfl ?_); refine ev_append (plain_int .u8) HP.out 1 rfl (.tmp 47) (.tmp 54) 26 5 (.int .u8 0) 1 rfl Try.underlying26 info5 rfl (by decide) (by decide) (.slice A7 0 0) [] nb (some ⟨bN, oN, none⟩) 64 cN rfl rfl rfl HCN.out (by decide) ?_; intro v_b wb hpn; clear HP; have HP := Aside0.mk hpn.drop1; clear hpn; obtain ⟨A_b, c_b, rfl⟩ := Kd.R_slice (HP.out.row 0 rfl); rw [List.nil_append] at HP; rw [List.nil_append, HFB.out.1]; rw [HFB.out.1] at HP))
          have HPn := Aside0.mk (show Hp w0 wb (.row (Kd.int .u8) 5 w0.heap.size (.slice A_b 64 c_b) nb :: .row KPt 102 w0.heap.size (.slice (some ⟨bA, oA, none⟩) R.soft.length c2) R.soft :: Rs.set i (rRef w0.heap.size g { R with firm := F, soft := [] } ex2)) from HP.out)
          clear HP HCN
          have HP := HPn
          clear HPn
          have hR0 := Kd.R_reads' (HP.out.row 0 rfl)
          obtain ⟨A9, m9, hm9, hl9, hc9, hrunB, hC9⟩ := D.from8 A_b c_b nb t.toNat (by rw [HFB.out.1]; have := HTN.out; omega) (by rw [HFB.out.1]; exact hR0.2.1) t (by have := HTN.out; omega)
          rw [HFB.out.1] at hrunB hC9 hl9
          have H9 := Aside0.mk (And.intro hm9 (And.intro hl9 hC9))
          clear hR0 hm9 hl9 hc9 hC9
          refine held_named (S := (fun w' => w'.cell? ⟨bA, oA + x.toNat * 2, none⟩ = some (.int .i64 pn) ∧ w'.cell? ⟨bA, oA + x.toNat * 2 + 1, none⟩ = some (.slice (some ⟨bp, op, none⟩) 64 cp))) (by kernel_rfl) (fun wd0 hwd0 => ?_)
          have HPn := Aside0.mk (HP.out.drewN 1)
          rw [← World.drew_is_drewN, hwd0] at HPn
          clear HP hwd0
          have HP := HPn
          clear HPn
          refine ⟨by (try dsimp only); first | exact HC.out _ _ 1 HP.out rfl | exact HC.out _ _ 2 HP.out rfl, fun hHeld => ?_⟩
          refine wpAnyH_take (i := 0) (oi := ({ dst := (some 56), op := (Op.move (Operand.tmp 0)), type := 58, pos := "ref.go:139", after := #[], guard := none } : Oper)) (v := ?_) rfl (by kernel_rfl) (by kernel_rfl) (by kernel_rfl) (fun _ _ _ h => h) (Or.inl ⟨by rfl, ?_⟩) hHeld ?_
          rotate_left
          · intro w_ hSw; (try dsimp only at hSw); go_simp; try (with_reducible rfl)
          try simp only [Act.put, List.setIfInBounds_toArray, List.set_cons_zero, List.set_cons_succ]
          refine wpAnyH_take (i := 1) (oi := ({ dst := (some 57), op := (Op.move (Operand.tmp 7)), type := 70, pos := "ref.go:139", after := #[], guard := none } : Oper)) (v := ?_) rfl (by kernel_rfl) (by kernel_rfl) (by kernel_rfl) (fun _ _ _ h => h) (Or.inl ⟨by rfl, ?_⟩) hHeld ?_
          rotate_left
          · intro w_ hSw; (try dsimp only at hSw); go_simp; try (with_reducible rfl)
          try simp only [Act.put, List.setIfInBounds_toArray, List.set_cons_zero, List.set_cons_succ]
          refine wpAnyH_take (i := 2) (oi := ({ dst := (some 58), op := (Op.move (Operand.tmp 8)), type := 3, pos := "ref.go:139", after := #[], guard := none } : Oper)) (v := ?_) rfl (by kernel_rfl) (by kernel_rfl) (by kernel_rfl) (fun _ _ _ h => h) (Or.inl ⟨by rfl, ?_⟩) hHeld ?_
          rotate_left
          · intro w_ hSw; (try dsimp only at hSw); go_simp; try (with_reducible rfl)
          try simp only [Act.put, List.setIfInBounds_toArray, List.set_cons_zero, List.set_cons_succ]
          refine wpAnyH_take (i := 3) (oi := ({ dst := (some 59), op := (Op.indexAddr 70 (Operand.tmp 57) (Operand.tmp 58)), type := 0, pos := "ref.go:139", after := #[{ on := 1, ground := Ground.data }, { on := 2, ground := Ground.data }], guard := none } : Oper)) (v := ?_) rfl (by kernel_rfl) (by kernel_rfl) (by kernel_rfl) (fun _ _ _ h => h) (Or.inl ⟨by rfl, ?_⟩) hHeld ?_
          rotate_left
          · intro w_ hSw; (try dsimp only at hSw); go_simp; try (with_reducible rfl)
          try simp only [Act.put, List.setIfInBounds_toArray, List.set_cons_zero, List.set_cons_succ]
          refine wpAnyH_take (i := 4) (oi := ({ dst := (some 60), op := (Op.fieldAddr 102 (Operand.tmp 59) 0), type := 0, pos := "ref.go:139", after := #[{ on := 3, ground := Ground.data }], guard := none } : Oper)) (v := ?_) rfl (by kernel_rfl) (by kernel_rfl) (by kernel_rfl) (fun _ _ _ h => h) (Or.inl ⟨by rfl, ?_⟩) hHeld ?_
          rotate_left
          · intro w_ hSw; (try dsimp only at hSw); go_simp; try (with_reducible rfl)
          try simp only [Act.put, List.setIfInBounds_toArray, List.set_cons_zero, List.set_cons_succ]
          refine wpAnyH_take (i := 5) (oi := ({ dst := (some 61), op := (Op.load 3 (Operand.tmp 60)), type := 3, pos := "ref.go:139", after := #[{ on := 4, ground := Ground.data }], guard := none } : Oper)) (v := ?_) rfl (by kernel_rfl) (by kernel_rfl) (by kernel_rfl) (fun _ _ _ h => h) (Or.inl ⟨by rfl, ?_⟩) hHeld ?_
          rotate_left
          · intro w_ hSw; (try dsimp only at hSw); go_simp; try (with_reducible rfl)
          try simp only [Act.put, List.setIfInBounds_toArray, List.set_cons_zero, List.set_cons_succ]
          refine wpAnyH_take (i := 7) (oi := ({ dst := (some 63), op := (Op.move (Operand.tmp 7)), type := 70, pos := "ref.go:139", after := #[], guard := none } : Oper)) (v := ?_) rfl (by kernel_rfl) (by kernel_rfl) (by kernel_rfl) (fun _ _ _ h => h) (Or.inl ⟨by rfl, ?_⟩) hHeld ?_
          rotate_left
          · intro w_ hSw; (try dsimp only at hSw); go_simp; try (with_reducible rfl)
          try simp only [Act.put, List.setIfInBounds_toArray, List.set_cons_zero, List.set_cons_succ]
          refine wpAnyH_take (i := 8) (oi := ({ dst := (some 64), op := (Op.move (Operand.tmp 8)), type := 3, pos := "ref.go:139", after := #[], guard := none } : Oper)) (v := ?_) rfl (by kernel_rfl) (by kernel_rfl) (by kernel_rfl) (fun _ _ _ h => h) (Or.inl ⟨by rfl, ?_⟩) hHeld ?_
          rotate_left
          · intro w_ hSw; (try dsimp only at hSw); go_simp; try (with_reducible rfl)
          try simp only [Act.put, List.setIfInBounds_toArray, List.set_cons_zero, List.set_cons_succ]
          refine wpAnyH_take (i := 9) (oi := ({ dst := (some 65), op := (Op.indexAddr 70 (Operand.tmp 63) (Operand.tmp 64)), type := 0, pos := "ref.go:139", after := #[{ on := 7, ground := Ground.data }, { on := 8, ground := Ground.data }], guard := none } : Oper)) (v := ?_) rfl (by kernel_rfl) (by kernel_rfl) (by kernel_rfl) (fun _ _ _ h => h) (Or.inl ⟨by rfl, ?_⟩) hHeld ?_
          rotate_left
          · intro w_ hSw; (try dsimp only at hSw); go_simp; try (with_reducible rfl)
          try simp only [Act.put, List.setIfInBounds_toArray, List.set_cons_zero, List.set_cons_succ]
          refine wpAnyH_take (i := 10) (oi := ({ dst := (some 66), op := (Op.fieldAddr 102 (Operand.tmp 65) 1), type := 0, pos := "ref.go:139", after := #[{ on := 9, ground := Ground.data }], guard := none } : Oper)) (v := ?_) rfl (by kernel_rfl) (by kernel_rfl) (by kernel_rfl) (fun _ _ _ h => h) (Or.inl ⟨by rfl, ?_⟩) hHeld ?_
          rotate_left
          · intro w_ hSw; (try dsimp only at hSw); go_simp; try (with_reducible rfl)
          try simp only [Act.put, List.setIfInBounds_toArray, List.set_cons_zero, List.set_cons_succ]
          refine wpAnyH_take (i := 11) (oi := ({ dst := (some 67), op := (Op.load 26 (Operand.tmp 66)), type := 26, pos := "ref.go:139", after := #[{ on := 10, ground := Ground.data }], guard := none } : Oper)) (v := ?_) rfl (by kernel_rfl) (by kernel_rfl) (by kernel_rfl) (fun _ _ _ h => h) (Or.inl ⟨by rfl, ?_⟩) hHeld ?_
          rotate_left
          · intro w_ hSw; (try dsimp only at hSw); go_simp; try (with_reducible rfl)
          try simp only [Act.put, List.setIfInBounds_toArray, List.set_cons_zero, List.set_cons_succ]
          refine wpAnyH_take (i := 12) (oi := ({ dst := (some 68), op := (Op.move (Operand.tmp 2)), type := 3, pos := "ref.go:139", after := #[], guard := none } : Oper)) (v := ?_) rfl (by kernel_rfl) (by kernel_rfl) (by kernel_rfl) (fun _ _ _ h => h) (Or.inl ⟨by rfl, ?_⟩) hHeld ?_
          rotate_left
          · intro w_ hSw; (try dsimp only at hSw); go_simp; try (with_reducible rfl)
          try simp only [Act.put, List.setIfInBounds_toArray, List.set_cons_zero, List.set_cons_succ]
          refine wpAnyH_take (i := 13) (oi := ({ dst := (some 69), op := (Op.slice 26 (Operand.tmp 67) none (some (Operand.tmp 68)) none), type := 26, pos := "ref.go:139", after := #[{ on := 11, ground := Ground.data }, { on := 12, ground := Ground.data }], guard := none } : Oper)) (v := ?_) rfl (by kernel_rfl) (by kernel_rfl) (by kernel_rfl) (fun _ _ _ h => h) (Or.inl ⟨by rfl, ?_⟩) hHeld ?_
          rotate_left
          · intro w_ hSw; (try dsimp only at hSw); go_simp; try (with_reducible rfl)
          try simp only [Act.put, List.setIfInBounds_toArray, List.set_cons_zero, List.set_cons_succ]
          refine wpAnyH_take (i := 15) (oi := ({ dst := (some 71), op := (Op.move (Operand.tmp 9)), type := 26, pos := "ref.go:139", after := #[], guard := none } : Oper)) (v := ?_) rfl (by kernel_rfl) (by kernel_rfl) (by kernel_rfl) (fun _ _ _ h => h) (Or.inl ⟨by rfl, ?_⟩) hHeld ?_
          rotate_left
          · intro w_ hSw; (try dsimp only at hSw); go_simp; try (with_reducible rfl)
          try simp only [Act.put, List.setIfInBounds_toArray, List.set_cons_zero, List.set_cons_succ]
          refine wpAnyH_take (i := 16) (oi := ({ dst := (some 72), op := (Op.move (Operand.tmp 2)), type := 3, pos := "ref.go:139", after := #[], guard := none } : Oper)) (v := ?_) rfl (by kernel_rfl) (by kernel_rfl) (by kernel_rfl) (fun _ _ _ h => h) (Or.inl ⟨by rfl, ?_⟩) hHeld ?_
          rotate_left
          · intro w_ hSw; (try dsimp only at hSw); go_simp; try (with_reducible rfl)
          try simp only [Act.put, List.setIfInBounds_toArray, List.set_cons_zero, List.set_cons_succ]
          refine wpAnyH_take (i := 17) (oi := ({ dst := (some 73), op := (Op.slice 26 (Operand.tmp 71) (some (Operand.tmp 72)) none none), type := 26, pos := "ref.go:139", after := #[{ on := 15, ground := Ground.data }, { on := 16, ground := Ground.data }], guard := none } : Oper)) (v := ?_) rfl (by kernel_rfl) (by kernel_rfl) (by kernel_rfl) (fun _ _ _ h => h) (Or.inl ⟨by rfl, ?_⟩) hHeld ?_
          rotate_left
          · intro w_ hSw; (try dsimp only at hSw); go_simp; try (with_reducible rfl)
          try simp only [Act.put, List.setIfInBounds_toArray, List.set_cons_zero, List.set_cons_succ]
          refine wpAnyH_ready (rs := [6]) (by kernel_rfl) (by simp) ?_
          refine AllReadyH.cons (o := ({ dst := (some 62), op := (Op.buildSlice 26 0 #[]), type := 26, pos := "ref.go:139", after := #[], guard := none } : Oper)) rfl (fun K hK => ?_) AllReadyH.nil
          refine st_run (by rfl) (w1 := wd0.alloc (.cells #[] 5 (0, 0))) (v := .slice (some ⟨wd0.heap.size, 0, none⟩) 0 0) ?hrMa ?_; (case hrMa => first | (go_simp; done) | (go_simp; rfl)); have HPn := Aside0.mk (show Hp w0 (wd0.alloc (.cells #[] 5 (0, 0))) (.row (Kd.int .u8) 5 w0.heap.size (.slice (some ⟨wd0.heap.size, 0, none⟩) 0 0) [] :: _) from HP.out.lit 5 (d := Kd.int .u8) (xs := []) (inner := []) (reps_ints .u8 _ _ []) (by decide)); clear HP; have HP := HPn; clear HPn; obtain ⟨wl, hwl⟩ : ∃ z, wd0.alloc (.cells #[] 5 (0, 0)) = z := ⟨_, rfl⟩; obtain ⟨Al, hAl⟩ : ∃ z : Option Addr, some ⟨wd0.heap.size, 0, none⟩ = z := ⟨_, rfl⟩; rw [hwl, hAl] at HP; rw [hwl, hAl]; clear hwl hAl
          clear hHeld
          refine hK.out _ _ ?_ (fun hHeld => ?_)
          · (try dsimp only); first | exact HC.out _ _ 1 HP.out rfl | exact HC.out _ _ 2 HP.out rfl
          clear hK K
          try simp only [Act.put, List.setIfInBounds_toArray, List.set_cons_zero, List.set_cons_succ]
          refine wpAnyH_ready (rs := [14]) (by kernel_rfl) (by simp) ?_
          refine AllReadyH.cons (o := ({ dst := (some 70), op := (Op.call { callee := (Callee.builtin Builtin.append), args := #[(Operand.tmp 62), (Operand.tmp 69)], argTypes := #[26, 26] }), type := 26, pos := "ref.go:139", after := #[{ on := 6, ground := Ground.data }, { on := 13, ground := Ground.data }], guard := none } : Oper)) rfl (fun K hK => ?_) AllReadyH.nil
          refine st_append (plain_int .u8) HP.out 0 (by rfl) (.tmp 62) (.tmp 69) 26 5 (.int .u8 0) 1 (by rfl) Try.underlying26 info5 rfl (by decide) (by decide) (.slice Al 0 0) [] (p.b.take t.toNat) (some ⟨bp, op, none⟩) t.toNat cp (by rfl) (by rfl) rfl (C_tk (HRD.out _ _ { R with firm := F, soft := [] } ex2 (i + 3) HP.out HSG.out (List.mem_append_right _ (List.mem_append_right _ HPX.out))) t.toNat (by have := HTN.out; omega) rfl) (by have := HTN.out; show (0 + t.toNat) * 1 ≤ 140737488355328; omega) ?_; intro v_n wq hpn; clear HP; have HP := Aside0.mk hpn; clear hpn; rw [List.nil_append] at HP; obtain ⟨A_n, c_n, rfl⟩ := Kd.R_slice (HP.out.row 0 rfl); obtain ⟨M1, hM1⟩ : ∃ z, p.b.take t.toNat = z := ⟨_, rfl⟩; rw [hM1] at HP; (try rw [hM1]); have HM1 := Aside0.mk (And.intro hM1 (show M1.length = t.toNat from by rw [← hM1, List.length_take, HPB.out.2.1]; have := HTN.out; omega)); clear hM1
          clear hHeld
          refine hK.out _ _ ?_ (fun hHeld => ?_)
          · (try dsimp only); first | exact HC.out _ _ 1 HP.out rfl | exact HC.out _ _ 2 HP.out rfl
          clear hK K
          try simp only [Act.put, List.setIfInBounds_toArray, List.set_cons_zero, List.set_cons_succ]
          refine wpAnyH_ready (rs := [18]) (by kernel_rfl) (by simp) ?_
          refine AllReadyH.cons (o := ({ dst := (some 74), op := (Op.call { callee := (Callee.builtin Builtin.append), args := #[(Operand.tmp 70), (Operand.tmp 73)], argTypes := #[26, 26] }), type := 26, pos := "ref.go:139", after := #[{ on := 14, ground := Ground.data }, { on := 17, ground := Ground.data }, { on := 14, ground := Ground.chain }], guard := none } : Oper)) rfl (fun K hK => ?_) AllReadyH.nil
          refine st_append (plain_int .u8) HP.out 0 (by rfl) (.tmp 70) (.tmp 73) 26 5 (.int .u8 0) 1 (by rfl) Try.underlying26 info5 rfl (by decide) (by decide) (.slice A_n M1.length c_n) M1 m9 A9 m9.length (c_b - t.toNat) (by rfl) (by rfl) rfl (H9.out.2.2 _ (by have h := (Kd.R_reads' (HP.out.row 1 rfl)).2.2; rw [HFB.out.1] at h; exact h)) (by rw [HM1.out.2, H9.out.2.1]; have := HTN.out; omega) ?_; intro v_m wz hpn; clear HP; have HP := Aside0.mk hpn; clear hpn; obtain ⟨A_m, c_m, rfl⟩ := Kd.R_slice (HP.out.row 0 rfl); obtain ⟨M2, hM2⟩ : ∃ z, M1 ++ m9 = z := ⟨_, rfl⟩; rw [hM2] at HP; (try rw [hM2]); have HM2 := Aside0.mk (And.intro hM2 (show M2.length = 64 from by rw [← hM2, List.length_append, HM1.out.2, H9.out.2.1]; have := HTN.out; omega)); rw [HM2.out.2] at HP; (try rw [HM2.out.2]); clear hM2
          clear hHeld
          refine hK.out _ _ ?_ (fun hHeld => ?_)
          · (try dsimp only); first | exact HC.out _ _ 1 HP.out rfl | exact HC.out _ _ 2 HP.out rfl
          clear hK K
          try simp only [Act.put, List.setIfInBounds_toArray, List.set_cons_zero, List.set_cons_succ]
          refine wpAnyH_take (i := 19) (oi := ({ dst := (some 75), op := (Op.build 102 #[(0, (Operand.tmp 61)), (1, (Operand.tmp 74))]), type := 102, pos := "ref.go:139", after := #[{ on := 5, ground := Ground.data }, { on := 18, ground := Ground.data }], guard := none } : Oper)) (v := ?_) rfl (by kernel_rfl) (by kernel_rfl) (by kernel_rfl) (fun _ _ _ h => h) (Or.inl ⟨by rfl, ?_⟩) hHeld ?_
          rotate_left
          · intro w_ hSw; (try dsimp only at hSw); go_simp; try (with_reducible rfl)
          try simp only [Act.put, List.setIfInBounds_toArray, List.set_cons_zero, List.set_cons_succ]
          refine wpAnyH_ready (rs := [20]) (by kernel_rfl) (by simp) ?_
          refine AllReadyH.cons (o := ({ dst := (some 76), op := (Op.call { callee := (Callee.value (Operand.func 57)), args := #[(Operand.tmp 56), (Operand.tmp 75)], argTypes := #[58, 102] }), type := 0, pos := "ref.go:139", after := #[{ on := 0, ground := Ground.data }, { on := 19, ground := Ground.data }, { on := 18, ground := Ground.chain }], guard := none } : Oper)) rfl (fun K hK => ?_) AllReadyH.nil
          go_simp
          have HMB := Aside0.mk (show Bytes M2 from by rw [← HM2.out.1, ← HM1.out.1, ← H9.out.1]; intro y hy; rcases List.mem_append.1 hy with h | h; exact HPB.out.2.2 y (List.mem_of_mem_take h); exact HFB.out.2 y (List.mem_of_mem_drop h)); have HPA := Aside0.mk (Hp.adopt HP.out (i + 2) g { R with firm := F, soft := [] } ex2 HSG.out pn HM2.out.2 HMB.out); clear HP; have HP := Aside0.mk (show Hp w0 wz (.row (Kd.int .u8) 5 w0.heap.size (.slice A_b 64 c_b) nb :: .row KPt 102 w0.heap.size (.slice (some ⟨bA, oA, none⟩) R.soft.length c2) R.soft :: Rs.set i (rRef w0.heap.size g { R with firm := F, soft := [] } (⟨pn, .slice A_m 64 c_m, M2⟩ :: ex2))) from by have h : Hp w0 wz (_ :: _ :: (Rs.set i _).set i (rRef w0.heap.size g { R with firm := F, soft := [] } (⟨pn, .slice A_m 64 c_m, M2⟩ :: ex2))) := HPA.out; rw [List.set_set] at h; exact h); clear HPA; refine (CF.out ⟨pn, .slice A_m 64 c_m, M2⟩ _ _ (i + 2) (⟨pn, .slice A_m 64 c_m, M2⟩ :: ex2) HP.out (set_get (α := Res) (l := Rs) _ HI.out) List.mem_cons_self).mono ?_; rintro e w9 ⟨rfl, hpn⟩; clear HP; have HP := Aside0.mk (show Hp w0 w9 (.row (Kd.int .u8) 5 w0.heap.size (.slice A_b 64 c_b) nb :: .row KPt 102 w0.heap.size (.slice (some ⟨bA, oA, none⟩) R.soft.length c2) R.soft :: Rs.set i (rRef w0.heap.size g { R with firm := putP F ⟨pn, .slice A_m 64 c_m, M2⟩, soft := [] } (⟨pn, .slice A_m 64 c_m, M2⟩ :: ex2))) from by have h : Hp w0 w9 (_ :: _ :: (Rs.set i _).set i (rRef w0.heap.size g { R with firm := putP F ⟨pn, .slice A_m 64 c_m, M2⟩, soft := [] } (⟨pn, .slice A_m 64 c_m, M2⟩ :: ex2))) := hpn; rw [List.set_set] at h; exact h); clear hpn
          go_wp2_with fail
          clear hHeld
          refine hK.out _ _ ?_ (fun hHeld => ?_)
          · (try dsimp only); first | exact HC.out _ _ 1 HP.out rfl | exact HC.out _ _ 2 HP.out rfl
          clear hK K
          try simp only [Act.put, List.setIfInBounds_toArray, List.set_cons_zero, List.set_cons_succ]
          refine wpAnyH_done (by kernel_rfl) ?_ _
          clear hHeld
          have HGG := Aside0.mk (show crashG keep (nbP (R.soft.drop (j + 1))) (j + 1) 0 (firmB (putP F ⟨pn, .slice A_m 64 c_m, M2⟩)) = crashG keep (nbP R.soft) 0 torn (firmB R.firm) from by
            rw [← HF.out.2.2.2, HG.out, if_neg HNK.out, firmB_put _ HF.out.1, HNB.out, HM1.out.1, H9.out.1, HM2.out.1])
          go_wp2_with fail
          have HPn := Aside0.mk HP.out.drop1
          clear HP
          go_roundg (gk - 1)
          case measure => have := HK.out; have := HJ.out.1; omega
          case rel => exact ⟨j + 1, x + 1, 0, putP F ⟨pn, .slice A_m 64 c_m, M2⟩, ⟨pn, .slice A_m 64 c_m, M2⟩ :: ex2, rfl, rfl, ⟨by have := HX.out; omega⟩, ⟨by have := HK.out; have := HJ.out.1; omega⟩, ⟨by decide⟩, ⟨uniq_put _ HF.out.1, by have := putP_len F ⟨pn, .slice A_m 64 c_m, M2⟩; have := HF.out.2.1; omega, fun p hp => List.mem_cons_of_mem _ (HF.out.2.2.1 p hp), HGG.out⟩, HPn⟩
        · have dt : decide (t > 0) = false := decide_eq_false ct
          have HGG := Aside0.mk (show crashG keep (nbP (R.soft.drop (j + 1))) (j + 1) 0 (firmB F) = crashG keep (nbP R.soft) 0 torn (firmB R.firm) from by
            have h0 : t.toNat = 0 := by have := HT.out; omega
            rw [← HF.out.2.2.2, HG.out, if_neg HNK.out, h0, put1_self])
          clear ct hcn hcv
          go_wp2_with fail
          go_roundg (gk - 1)
          case measure => have := HK.out; have := HJ.out.1; omega
          case rel => exact ⟨j + 1, x + 1, 0, F, ex2, rfl, rfl, ⟨by have := HX.out; omega⟩, ⟨by have := HK.out; have := HJ.out.1; omega⟩, ⟨by decide⟩, ⟨HF.out.1, by have := HF.out.2.1; omega, HF.out.2.2.1, HGG.out⟩, HP⟩
    · have dk : decide (x < (keep.length : Int)) = false := decide_eq_false (by omega)
      have HNK := Aside0.mk (show ¬ keep[j]? = some true from by rw [List.getElem?_eq_none (by omega)]; decide)
      clear hx hk hll c1_ hp hxj hpm hpx hcp hbl hbb hrd hpn_ hpv_ ck1 hkl hkl2
      by_cases ct : 0 < t
      · have dt : decide (t > 0) = true := decide_eq_true ct
        have ht := HT.out
        have hrunA : ∀ w : World, (Instr.slice 26 (.slice (some ⟨bp, op, none⟩) 64 cp) none (some (.int .i64 t)) none).run Try.prog w = .ok (.slice (some ⟨bp, op, none⟩) t.toNat cp) w := fun w => by
          have h := D.to8 (some ⟨bp, op, none⟩) cp p.b t.toNat (by rw [HPB.out.2.1]; omega) (by rw [HPB.out.2.1]; exact HPB.out.1) t (by omega) w
          rwa [HPB.out.2.1] at h
        have HTN := Aside0.mk (show t.toNat ≤ 63 ∧ ((t.toNat : Nat) : Int) = t by omega)
        have q63 : t ≤ 64 := by omega
        have q0t : 0 ≤ t := by omega
        have HFB := Aside0.mk (show (firmB F pn).length = 64 ∧ Bytes (firmB F pn) from by
          obtain ⟨u1, u2, qs, hm, _⟩ := Hp.openR HP.out (i + 1) g { R with firm := F, soft := [] } ex2 HSG.out
          exact firmB_ok (fun p hp => ⟨(hm p (List.mem_append_left _ hp)).2.1, (hm p (List.mem_append_left _ hp)).2.2⟩) pn)
        clear ct ht hcn hcv
        go_wp2_with (first | ((with_reducible refine gate_dst (N := 47) rfl ?_); refine ev_run rfl (w1 := wr.alloc (.cells #[] 5 (0, 0))) (v := .slice (some ⟨wr.heap.size, 0, none⟩) 0 0) ?hrLb ?_; (case hrLb => first | (go_simp; done) | (go_simp; rfl)); have HPn := Aside0.mk (show Hp w0 (wr.alloc (.cells #[] 5 (0, 0))) (.row (Kd.int .u8) 5 w0.heap.size (.slice (some ⟨wr.heap.size, 0, none⟩) 0 0) [] :: _) from HP.out.lit 5 (d := Kd.int .u8) (xs := []) (inner := []) (reps_ints .u8 _ _ []) (by decide)); clear HP; have HP := HPn; clear HPn; obtain ⟨w7, hw7⟩ : ∃ z, wr.alloc (.cells #[] 5 (0, 0)) = z := ⟨_, rfl⟩; obtain ⟨A7, hA7⟩ : ∃ z : Option Addr, some ⟨wr.heap.size, 0, none⟩ = z := ⟨_, rfl⟩; rw [hw7, hA7] at HP; rw [hw7, hA7]; clear hw7 hA7; obtain ⟨hcn, hcv⟩ := HC.out _ _ 1 HP.out rfl))
        refine (CN.out pn _ _ (i + 2) HP.out HSG.out).mono ?_; rintro e w8 ⟨bN, oN, cN, X, rfl, hcN, hpn, hCN⟩
        clear HP
        have HP := Aside0.mk hpn
        have HCN := Aside0.mk (show Kd.C (Kd.int .u8) w8 (some ⟨bN, oN, none⟩) 64 (firmB F pn) from hCN w8 hpn)
        obtain ⟨nb, hnb⟩ : ∃ z, firmB F pn = z := ⟨_, rfl⟩
        have HNB := Aside0.mk hnb
        rw [hnb] at HCN HFB
        clear hpn hCN hcN hcn hcv hnb
        go_wp2_with (first | ((with_reducible refine gate_dst (N := 55) rfl ?_); refine ev_append (plain_int .u8) HP.out 1 rfl (.tmp 47) (.tmp 54) 26 5 (.int .u8 0) 1 rfl Try.underlying26 info5 rfl (by decide) (by decide) (.slice A7 0 0) [] nb (some ⟨bN, oN, none⟩) 64 cN rfl rfl rfl HCN.out (by decide) ?_; intro v_b wb hpn; clear HP; have HP := Aside0.mk hpn.drop1; clear hpn; obtain ⟨A_b, c_b, rfl⟩ := Kd.R_slice (HP.out.row 0 rfl); rw [List.nil_append] at HP; rw [List.nil_append, HFB.out.1]; rw [HFB.out.1] at HP))
        have HPn := Aside0.mk (show Hp w0 wb (.row (Kd.int .u8) 5 w0.heap.size (.slice A_b 64 c_b) nb :: .row KPt 102 w0.heap.size (.slice (some ⟨bA, oA, none⟩) R.soft.length c2) R.soft :: Rs.set i (rRef w0.heap.size g { R with firm := F, soft := [] } ex2)) from HP.out)
        clear HP HCN
        have HP := HPn
        clear HPn
        have hR0 := Kd.R_reads' (HP.out.row 0 rfl)
        obtain ⟨A9, m9, hm9, hl9, hc9, hrunB, hC9⟩ := D.from8 A_b c_b nb t.toNat (by rw [HFB.out.1]; have := HTN.out; omega) (by rw [HFB.out.1]; exact hR0.2.1) t (by have := HTN.out; omega)
        rw [HFB.out.1] at hrunB hC9 hl9
        have H9 := Aside0.mk (And.intro hm9 (And.intro hl9 hC9))
        clear hR0 hm9 hl9 hc9 hC9
        refine held_named (S := (fun w' => w'.cell? ⟨bA, oA + x.toNat * 2, none⟩ = some (.int .i64 pn) ∧ w'.cell? ⟨bA, oA + x.toNat * 2 + 1, none⟩ = some (.slice (some ⟨bp, op, none⟩) 64 cp))) (by kernel_rfl) (fun wd0 hwd0 => ?_)
        have HPn := Aside0.mk (HP.out.drewN 1)
        rw [← World.drew_is_drewN, hwd0] at HPn
        clear HP hwd0
        have HP := HPn
        clear HPn
        refine ⟨by (try dsimp only); first | exact HC.out _ _ 1 HP.out rfl | exact HC.out _ _ 2 HP.out rfl, fun hHeld => ?_⟩
        refine wpAnyH_take (i := 0) (oi := ({ dst := (some 56), op := (Op.move (Operand.tmp 0)), type := 58, pos := "ref.go:139", after := #[], guard := none } : Oper)) (v := ?_) rfl (by kernel_rfl) (by kernel_rfl) (by kernel_rfl) (fun _ _ _ h => h) (Or.inl ⟨by rfl, ?_⟩) hHeld ?_
        rotate_left
        · intro w_ hSw; (try dsimp only at hSw); go_simp; try (with_reducible rfl)
        try simp only [Act.put, List.setIfInBounds_toArray, List.set_cons_zero, List.set_cons_succ]
        refine wpAnyH_take (i := 1) (oi := ({ dst := (some 57), op := (Op.move (Operand.tmp 7)), type := 70, pos := "ref.go:139", after := #[], guard := none } : Oper)) (v := ?_) rfl (by kernel_rfl) (by kernel_rfl) (by kernel_rfl) (fun _ _ _ h => h) (Or.inl ⟨by rfl, ?_⟩) hHeld ?_
        rotate_left
        · intro w_ hSw; (try dsimp only at hSw); go_simp; try (with_reducible rfl)
        try simp only [Act.put, List.setIfInBounds_toArray, List.set_cons_zero, List.set_cons_succ]
        refine wpAnyH_take (i := 2) (oi := ({ dst := (some 58), op := (Op.move (Operand.tmp 8)), type := 3, pos := "ref.go:139", after := #[], guard := none } : Oper)) (v := ?_) rfl (by kernel_rfl) (by kernel_rfl) (by kernel_rfl) (fun _ _ _ h => h) (Or.inl ⟨by rfl, ?_⟩) hHeld ?_
        rotate_left
        · intro w_ hSw; (try dsimp only at hSw); go_simp; try (with_reducible rfl)
        try simp only [Act.put, List.setIfInBounds_toArray, List.set_cons_zero, List.set_cons_succ]
        refine wpAnyH_take (i := 3) (oi := ({ dst := (some 59), op := (Op.indexAddr 70 (Operand.tmp 57) (Operand.tmp 58)), type := 0, pos := "ref.go:139", after := #[{ on := 1, ground := Ground.data }, { on := 2, ground := Ground.data }], guard := none } : Oper)) (v := ?_) rfl (by kernel_rfl) (by kernel_rfl) (by kernel_rfl) (fun _ _ _ h => h) (Or.inl ⟨by rfl, ?_⟩) hHeld ?_
        rotate_left
        · intro w_ hSw; (try dsimp only at hSw); go_simp; try (with_reducible rfl)
        try simp only [Act.put, List.setIfInBounds_toArray, List.set_cons_zero, List.set_cons_succ]
        refine wpAnyH_take (i := 4) (oi := ({ dst := (some 60), op := (Op.fieldAddr 102 (Operand.tmp 59) 0), type := 0, pos := "ref.go:139", after := #[{ on := 3, ground := Ground.data }], guard := none } : Oper)) (v := ?_) rfl (by kernel_rfl) (by kernel_rfl) (by kernel_rfl) (fun _ _ _ h => h) (Or.inl ⟨by rfl, ?_⟩) hHeld ?_
        rotate_left
        · intro w_ hSw; (try dsimp only at hSw); go_simp; try (with_reducible rfl)
        try simp only [Act.put, List.setIfInBounds_toArray, List.set_cons_zero, List.set_cons_succ]
        refine wpAnyH_take (i := 5) (oi := ({ dst := (some 61), op := (Op.load 3 (Operand.tmp 60)), type := 3, pos := "ref.go:139", after := #[{ on := 4, ground := Ground.data }], guard := none } : Oper)) (v := ?_) rfl (by kernel_rfl) (by kernel_rfl) (by kernel_rfl) (fun _ _ _ h => h) (Or.inl ⟨by rfl, ?_⟩) hHeld ?_
        rotate_left
        · intro w_ hSw; (try dsimp only at hSw); go_simp; try (with_reducible rfl)
        try simp only [Act.put, List.setIfInBounds_toArray, List.set_cons_zero, List.set_cons_succ]
        refine wpAnyH_take (i := 7) (oi := ({ dst := (some 63), op := (Op.move (Operand.tmp 7)), type := 70, pos := "ref.go:139", after := #[], guard := none } : Oper)) (v := ?_) rfl (by kernel_rfl) (by kernel_rfl) (by kernel_rfl) (fun _ _ _ h => h) (Or.inl ⟨by rfl, ?_⟩) hHeld ?_
        rotate_left
        · intro w_ hSw; (try dsimp only at hSw); go_simp; try (with_reducible rfl)
        try simp only [Act.put, List.setIfInBounds_toArray, List.set_cons_zero, List.set_cons_succ]
        refine wpAnyH_take (i := 8) (oi := ({ dst := (some 64), op := (Op.move (Operand.tmp 8)), type := 3, pos := "ref.go:139", after := #[], guard := none } : Oper)) (v := ?_) rfl (by kernel_rfl) (by kernel_rfl) (by kernel_rfl) (fun _ _ _ h => h) (Or.inl ⟨by rfl, ?_⟩) hHeld ?_
        rotate_left
        · intro w_ hSw; (try dsimp only at hSw); go_simp; try (with_reducible rfl)
        try simp only [Act.put, List.setIfInBounds_toArray, List.set_cons_zero, List.set_cons_succ]
        refine wpAnyH_take (i := 9) (oi := ({ dst := (some 65), op := (Op.indexAddr 70 (Operand.tmp 63) (Operand.tmp 64)), type := 0, pos := "ref.go:139", after := #[{ on := 7, ground := Ground.data }, { on := 8, ground := Ground.data }], guard := none } : Oper)) (v := ?_) rfl (by kernel_rfl) (by kernel_rfl) (by kernel_rfl) (fun _ _ _ h => h) (Or.inl ⟨by rfl, ?_⟩) hHeld ?_
        rotate_left
        · intro w_ hSw; (try dsimp only at hSw); go_simp; try (with_reducible rfl)
        try simp only [Act.put, List.setIfInBounds_toArray, List.set_cons_zero, List.set_cons_succ]
        refine wpAnyH_take (i := 10) (oi := ({ dst := (some 66), op := (Op.fieldAddr 102 (Operand.tmp 65) 1), type := 0, pos := "ref.go:139", after := #[{ on := 9, ground := Ground.data }], guard := none } : Oper)) (v := ?_) rfl (by kernel_rfl) (by kernel_rfl) (by kernel_rfl) (fun _ _ _ h => h) (Or.inl ⟨by rfl, ?_⟩) hHeld ?_
        rotate_left
        · intro w_ hSw; (try dsimp only at hSw); go_simp; try (with_reducible rfl)
        try simp only [Act.put, List.setIfInBounds_toArray, List.set_cons_zero, List.set_cons_succ]
        refine wpAnyH_take (i := 11) (oi := ({ dst := (some 67), op := (Op.load 26 (Operand.tmp 66)), type := 26, pos := "ref.go:139", after := #[{ on := 10, ground := Ground.data }], guard := none } : Oper)) (v := ?_) rfl (by kernel_rfl) (by kernel_rfl) (by kernel_rfl) (fun _ _ _ h => h) (Or.inl ⟨by rfl, ?_⟩) hHeld ?_
        rotate_left
        · intro w_ hSw; (try dsimp only at hSw); go_simp; try (with_reducible rfl)
        try simp only [Act.put, List.setIfInBounds_toArray, List.set_cons_zero, List.set_cons_succ]
        refine wpAnyH_take (i := 12) (oi := ({ dst := (some 68), op := (Op.move (Operand.tmp 2)), type := 3, pos := "ref.go:139", after := #[], guard := none } : Oper)) (v := ?_) rfl (by kernel_rfl) (by kernel_rfl) (by kernel_rfl) (fun _ _ _ h => h) (Or.inl ⟨by rfl, ?_⟩) hHeld ?_
        rotate_left
        · intro w_ hSw; (try dsimp only at hSw); go_simp; try (with_reducible rfl)
        try simp only [Act.put, List.setIfInBounds_toArray, List.set_cons_zero, List.set_cons_succ]
        refine wpAnyH_take (i := 13) (oi := ({ dst := (some 69), op := (Op.slice 26 (Operand.tmp 67) none (some (Operand.tmp 68)) none), type := 26, pos := "ref.go:139", after := #[{ on := 11, ground := Ground.data }, { on := 12, ground := Ground.data }], guard := none } : Oper)) (v := ?_) rfl (by kernel_rfl) (by kernel_rfl) (by kernel_rfl) (fun _ _ _ h => h) (Or.inl ⟨by rfl, ?_⟩) hHeld ?_
        rotate_left
        · intro w_ hSw; (try dsimp only at hSw); go_simp; try (with_reducible rfl)
        try simp only [Act.put, List.setIfInBounds_toArray, List.set_cons_zero, List.set_cons_succ]
        refine wpAnyH_take (i := 15) (oi := ({ dst := (some 71), op := (Op.move (Operand.tmp 9)), type := 26, pos := "ref.go:139", after := #[], guard := none } : Oper)) (v := ?_) rfl (by kernel_rfl) (by kernel_rfl) (by kernel_rfl) (fun _ _ _ h => h) (Or.inl ⟨by rfl, ?_⟩) hHeld ?_
        rotate_left
        · intro w_ hSw; (try dsimp only at hSw); go_simp; try (with_reducible rfl)
        try simp only [Act.put, List.setIfInBounds_toArray, List.set_cons_zero, List.set_cons_succ]
        refine wpAnyH_take (i := 16) (oi := ({ dst := (some 72), op := (Op.move (Operand.tmp 2)), type := 3, pos := "ref.go:139", after := #[], guard := none } : Oper)) (v := ?_) rfl (by kernel_rfl) (by kernel_rfl) (by kernel_rfl) (fun _ _ _ h => h) (Or.inl ⟨by rfl, ?_⟩) hHeld ?_
        rotate_left
        · intro w_ hSw; (try dsimp only at hSw); go_simp; try (with_reducible rfl)
        try simp only [Act.put, List.setIfInBounds_toArray, List.set_cons_zero, List.set_cons_succ]
        refine wpAnyH_take (i := 17) (oi := ({ dst := (some 73), op := (Op.slice 26 (Operand.tmp 71) (some (Operand.tmp 72)) none none), type := 26, pos := "ref.go:139", after := #[{ on := 15, ground := Ground.data }, { on := 16, ground := Ground.data }], guard := none } : Oper)) (v := ?_) rfl (by kernel_rfl) (by kernel_rfl) (by kernel_rfl) (fun _ _ _ h => h) (Or.inl ⟨by rfl, ?_⟩) hHeld ?_
        rotate_left
        · intro w_ hSw; (try dsimp only at hSw); go_simp; try (with_reducible rfl)
        try simp only [Act.put, List.setIfInBounds_toArray, List.set_cons_zero, List.set_cons_succ]
        refine wpAnyH_ready (rs := [6]) (by kernel_rfl) (by simp) ?_
        refine AllReadyH.cons (o := ({ dst := (some 62), op := (Op.buildSlice 26 0 #[]), type := 26, pos := "ref.go:139", after := #[], guard := none } : Oper)) rfl (fun K hK => ?_) AllReadyH.nil
        refine st_run (by rfl) (w1 := wd0.alloc (.cells #[] 5 (0, 0))) (v := .slice (some ⟨wd0.heap.size, 0, none⟩) 0 0) ?hrMb ?_; (case hrMb => first | (go_simp; done) | (go_simp; rfl)); have HPn := Aside0.mk (show Hp w0 (wd0.alloc (.cells #[] 5 (0, 0))) (.row (Kd.int .u8) 5 w0.heap.size (.slice (some ⟨wd0.heap.size, 0, none⟩) 0 0) [] :: _) from HP.out.lit 5 (d := Kd.int .u8) (xs := []) (inner := []) (reps_ints .u8 _ _ []) (by decide)); clear HP; have HP := HPn; clear HPn; obtain ⟨wl, hwl⟩ : ∃ z, wd0.alloc (.cells #[] 5 (0, 0)) = z := ⟨_, rfl⟩; obtain ⟨Al, hAl⟩ : ∃ z : Option Addr, some ⟨wd0.heap.size, 0, none⟩ = z := ⟨_, rfl⟩; rw [hwl, hAl] at HP; rw [hwl, hAl]; clear hwl hAl
        clear hHeld
        refine hK.out _ _ ?_ (fun hHeld => ?_)
        · (try dsimp only); first | exact HC.out _ _ 1 HP.out rfl | exact HC.out _ _ 2 HP.out rfl
        clear hK K
        try simp only [Act.put, List.setIfInBounds_toArray, List.set_cons_zero, List.set_cons_succ]
        refine wpAnyH_ready (rs := [14]) (by kernel_rfl) (by simp) ?_
        refine AllReadyH.cons (o := ({ dst := (some 70), op := (Op.call { callee := (Callee.builtin Builtin.append), args := #[(Operand.tmp 62), (Operand.tmp 69)], argTypes := #[26, 26] }), type := 26, pos := "ref.go:139", after := #[{ on := 6, ground := Ground.data }, { on := 13, ground := Ground.data }], guard := none } : Oper)) rfl (fun K hK => ?_) AllReadyH.nil
        refine st_append (plain_int .u8) HP.out 0 (by rfl) (.tmp 62) (.tmp 69) 26 5 (.int .u8 0) 1 (by rfl) Try.underlying26 info5 rfl (by decide) (by decide) (.slice Al 0 0) [] (p.b.take t.toNat) (some ⟨bp, op, none⟩) t.toNat cp (by rfl) (by rfl) rfl (C_tk (HRD.out _ _ { R with firm := F, soft := [] } ex2 (i + 3) HP.out HSG.out (List.mem_append_right _ (List.mem_append_right _ HPX.out))) t.toNat (by have := HTN.out; omega) rfl) (by have := HTN.out; show (0 + t.toNat) * 1 ≤ 140737488355328; omega) ?_; intro v_n wq hpn; clear HP; have HP := Aside0.mk hpn; clear hpn; rw [List.nil_append] at HP; obtain ⟨A_n, c_n, rfl⟩ := Kd.R_slice (HP.out.row 0 rfl); obtain ⟨M1, hM1⟩ : ∃ z, p.b.take t.toNat = z := ⟨_, rfl⟩; rw [hM1] at HP; (try rw [hM1]); have HM1 := Aside0.mk (And.intro hM1 (show M1.length = t.toNat from by rw [← hM1, List.length_take, HPB.out.2.1]; have := HTN.out; omega)); clear hM1
        clear hHeld
        refine hK.out _ _ ?_ (fun hHeld => ?_)
        · (try dsimp only); first | exact HC.out _ _ 1 HP.out rfl | exact HC.out _ _ 2 HP.out rfl
        clear hK K
        try simp only [Act.put, List.setIfInBounds_toArray, List.set_cons_zero, List.set_cons_succ]
        refine wpAnyH_ready (rs := [18]) (by kernel_rfl) (by simp) ?_
        refine AllReadyH.cons (o := ({ dst := (some 74), op := (Op.call { callee := (Callee.builtin Builtin.append), args := #[(Operand.tmp 70), (Operand.tmp 73)], argTypes := #[26, 26] }), type := 26, pos := "ref.go:139", after := #[{ on := 14, ground := Ground.data }, { on := 17, ground := Ground.data }, { on := 14, ground := Ground.chain }], guard := none } : Oper)) rfl (fun K hK => ?_) AllReadyH.nil
        refine st_append (plain_int .u8) HP.out 0 (by rfl) (.tmp 70) (.tmp 73) 26 5 (.int .u8 0) 1 (by rfl) Try.underlying26 info5 rfl (by decide) (by decide) (.slice A_n M1.length c_n) M1 m9 A9 m9.length (c_b - t.toNat) (by rfl) (by rfl) rfl (H9.out.2.2 _ (by have h := (Kd.R_reads' (HP.out.row 1 rfl)).2.2; rw [HFB.out.1] at h; exact h)) (by rw [HM1.out.2, H9.out.2.1]; have := HTN.out; omega) ?_; intro v_m wz hpn; clear HP; have HP := Aside0.mk hpn; clear hpn; obtain ⟨A_m, c_m, rfl⟩ := Kd.R_slice (HP.out.row 0 rfl); obtain ⟨M2, hM2⟩ : ∃ z, M1 ++ m9 = z := ⟨_, rfl⟩; rw [hM2] at HP; (try rw [hM2]); have HM2 := Aside0.mk (And.intro hM2 (show M2.length = 64 from by rw [← hM2, List.length_append, HM1.out.2, H9.out.2.1]; have := HTN.out; omega)); rw [HM2.out.2] at HP; (try rw [HM2.out.2]); clear hM2
        clear hHeld
        refine hK.out _ _ ?_ (fun hHeld => ?_)
        · (try dsimp only); first | exact HC.out _ _ 1 HP.out rfl | exact HC.out _ _ 2 HP.out rfl
        clear hK K
        try simp only [Act.put, List.setIfInBounds_toArray, List.set_cons_zero, List.set_cons_succ]
        refine wpAnyH_take (i := 19) (oi := ({ dst := (some 75), op := (Op.build 102 #[(0, (Operand.tmp 61)), (1, (Operand.tmp 74))]), type := 102, pos := "ref.go:139", after := #[{ on := 5, ground := Ground.data }, { on := 18, ground := Ground.data }], guard := none } : Oper)) (v := ?_) rfl (by kernel_rfl) (by kernel_rfl) (by kernel_rfl) (fun _ _ _ h => h) (Or.inl ⟨by rfl, ?_⟩) hHeld ?_
        rotate_left
        · intro w_ hSw; (try dsimp only at hSw); go_simp; try (with_reducible rfl)
        try simp only [Act.put, List.setIfInBounds_toArray, List.set_cons_zero, List.set_cons_succ]
        refine wpAnyH_ready (rs := [20]) (by kernel_rfl) (by simp) ?_
        refine AllReadyH.cons (o := ({ dst := (some 76), op := (Op.call { callee := (Callee.value (Operand.func 57)), args := #[(Operand.tmp 56), (Operand.tmp 75)], argTypes := #[58, 102] }), type := 0, pos := "ref.go:139", after := #[{ on := 0, ground := Ground.data }, { on := 19, ground := Ground.data }, { on := 18, ground := Ground.chain }], guard := none } : Oper)) rfl (fun K hK => ?_) AllReadyH.nil
        go_simp
        have HMB := Aside0.mk (show Bytes M2 from by rw [← HM2.out.1, ← HM1.out.1, ← H9.out.1]; intro y hy; rcases List.mem_append.1 hy with h | h; exact HPB.out.2.2 y (List.mem_of_mem_take h); exact HFB.out.2 y (List.mem_of_mem_drop h)); have HPA := Aside0.mk (Hp.adopt HP.out (i + 2) g { R with firm := F, soft := [] } ex2 HSG.out pn HM2.out.2 HMB.out); clear HP; have HP := Aside0.mk (show Hp w0 wz (.row (Kd.int .u8) 5 w0.heap.size (.slice A_b 64 c_b) nb :: .row KPt 102 w0.heap.size (.slice (some ⟨bA, oA, none⟩) R.soft.length c2) R.soft :: Rs.set i (rRef w0.heap.size g { R with firm := F, soft := [] } (⟨pn, .slice A_m 64 c_m, M2⟩ :: ex2))) from by have h : Hp w0 wz (_ :: _ :: (Rs.set i _).set i (rRef w0.heap.size g { R with firm := F, soft := [] } (⟨pn, .slice A_m 64 c_m, M2⟩ :: ex2))) := HPA.out; rw [List.set_set] at h; exact h); clear HPA; refine (CF.out ⟨pn, .slice A_m 64 c_m, M2⟩ _ _ (i + 2) (⟨pn, .slice A_m 64 c_m, M2⟩ :: ex2) HP.out (set_get (α := Res) (l := Rs) _ HI.out) List.mem_cons_self).mono ?_; rintro e w9 ⟨rfl, hpn⟩; clear HP; have HP := Aside0.mk (show Hp w0 w9 (.row (Kd.int .u8) 5 w0.heap.size (.slice A_b 64 c_b) nb :: .row KPt 102 w0.heap.size (.slice (some ⟨bA, oA, none⟩) R.soft.length c2) R.soft :: Rs.set i (rRef w0.heap.size g { R with firm := putP F ⟨pn, .slice A_m 64 c_m, M2⟩, soft := [] } (⟨pn, .slice A_m 64 c_m, M2⟩ :: ex2))) from by have h : Hp w0 w9 (_ :: _ :: (Rs.set i _).set i (rRef w0.heap.size g { R with firm := putP F ⟨pn, .slice A_m 64 c_m, M2⟩, soft := [] } (⟨pn, .slice A_m 64 c_m, M2⟩ :: ex2))) := hpn; rw [List.set_set] at h; exact h); clear hpn
        go_wp2_with fail
        clear hHeld
        refine hK.out _ _ ?_ (fun hHeld => ?_)
        · (try dsimp only); first | exact HC.out _ _ 1 HP.out rfl | exact HC.out _ _ 2 HP.out rfl
        clear hK K
        try simp only [Act.put, List.setIfInBounds_toArray, List.set_cons_zero, List.set_cons_succ]
        refine wpAnyH_done (by kernel_rfl) ?_ _
        clear hHeld
        have HGG := Aside0.mk (show crashG keep (nbP (R.soft.drop (j + 1))) (j + 1) 0 (firmB (putP F ⟨pn, .slice A_m 64 c_m, M2⟩)) = crashG keep (nbP R.soft) 0 torn (firmB R.firm) from by
          rw [← HF.out.2.2.2, HG.out, if_neg HNK.out, firmB_put _ HF.out.1, HNB.out, HM1.out.1, H9.out.1, HM2.out.1])
        go_wp2_with fail
        have HPn := Aside0.mk HP.out.drop1
        clear HP
        go_roundg (gk - 1)
        case measure => have := HK.out; have := HJ.out.1; omega
        case rel => exact ⟨j + 1, x + 1, 0, putP F ⟨pn, .slice A_m 64 c_m, M2⟩, ⟨pn, .slice A_m 64 c_m, M2⟩ :: ex2, rfl, rfl, ⟨by have := HX.out; omega⟩, ⟨by have := HK.out; have := HJ.out.1; omega⟩, ⟨by decide⟩, ⟨uniq_put _ HF.out.1, by have := putP_len F ⟨pn, .slice A_m 64 c_m, M2⟩; have := HF.out.2.1; omega, fun p hp => List.mem_cons_of_mem _ (HF.out.2.2.1 p hp), HGG.out⟩, HPn⟩
      · have dt : decide (t > 0) = false := decide_eq_false ct
        have HGG := Aside0.mk (show crashG keep (nbP (R.soft.drop (j + 1))) (j + 1) 0 (firmB F) = crashG keep (nbP R.soft) 0 torn (firmB R.firm) from by
          have h0 : t.toNat = 0 := by have := HT.out; omega
          rw [← HF.out.2.2.2, HG.out, if_neg HNK.out, h0, put1_self])
        clear ct hcn hcv
        go_wp2_with fail
        go_roundg (gk - 1)
        case measure => have := HK.out; have := HJ.out.1; omega
        case rel => exact ⟨j + 1, x + 1, 0, F, ex2, rfl, rfl, ⟨by have := HX.out; omega⟩, ⟨by have := HK.out; have := HJ.out.1; omega⟩, ⟨by decide⟩, ⟨HF.out.1, by have := HF.out.2.1; omega, HF.out.2.2.1, HGG.out⟩, HP⟩
  · have d3 : decide (x < (R.soft.length : Int)) = false := decide_eq_false (by omega)
    obtain rfl : j = R.soft.length := by omega
    have HG := Aside0.mk (show firmB F = crashG keep (nbP R.soft) 0 torn (firmB R.firm) from by
      have h := HF.out.2.2.2
      rw [List.drop_length] at h
      exact h)
    obtain ⟨u1, u2, qs, hm, HP2⟩ := Hp.openR HP.out (i + 1) g { R with firm := F, soft := [] } ex2 (set_get (α := Res) (l := Rs) _ HI.out)
    have HM := Aside0.mk hm
    have HPa := Aside0.mk HP2
    have hc3 := (blk_cell (HPa.out.blk 0 rfl) 3).trans (show _ = some (Value.bool R.has) from rfl)
    have hf3 := blk_frozen (HPa.out.blk 0 rfl) 3
    have HPb := Aside0.mk (HPa.out.setCell 0 rfl 3 (.bool false))
    have hc4 := (blk_cell (HPb.out.blk 0 rfl) 4).trans (show _ = some (Value.int .i64 R.left) from rfl)
    have hf4 := blk_frozen (HPb.out.blk 0 rfl) 4
    have HPc := Aside0.mk (HPb.out.setCell 0 rfl 4 (.int .i64 0))
    have hc6 := (blk_cell (HPc.out.blk 0 rfl) 6).trans (show _ = some (Value.bool R.out) from rfl)
    have hf6 := blk_frozen (HPc.out.blk 0 rfl) 6
    have HPd := Aside0.mk (HPc.out.setCell 0 rfl 6 (.bool false))
    clear hx hk hll c1_ HP HP2 hm HPa HPb HPc hkl
    go_wp2_with fail
    go_ret
    have h := Hp.closeR (i := i + 1) { R with firm := F, soft := [], has := false, left := 0, out := false } ex2 HM.out (by rw [List.length_cons, List.length_set]; have := HI.out; omega) (show Hp w0 _ (.blk g (.cells (refC { R with firm := F, soft := [], has := false, left := 0, out := false } u1 u2).toArray 72 (0, 0)) :: .row KPt 102 w0.heap.size u1 F :: .row KPt 102 w0.heap.size u2 [] :: .all (poolL w0.heap.size qs) :: (_ :: Rs.set i _).set (i + 1) .none) from HPd.out)
    have h2 : Hp w0 _ (_ :: (Rs.set i _).set i (rRef w0.heap.size g { R with firm := F, soft := [], has := false, left := 0, out := false } ex2)) := h
    rw [List.set_set] at h2
    first | exact ⟨rfl, F, ex2, HF.out.1, HF.out.2.1, HG.out, h2.drop1⟩ | exact ⟨rfl, F, HF.out.1, HF.out.2.1, HG.out, ex2, h2.drop1⟩
end Go.Proofs.Ytgflghnbpbiakaa.Su
