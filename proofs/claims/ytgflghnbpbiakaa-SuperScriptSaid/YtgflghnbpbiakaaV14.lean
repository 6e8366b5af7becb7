import Derived.Test.YtgflghnbpbiakaaV13
import Derived.Deep.CutBlock
namespace Go.Proofs.Ytgflghnbpbiakaa.Su
open Go.Proofs.Ytgflghnbpbiakaa.H hiding C_ints cellL cellN ev_copy ev_store_mid frozC i64k run_cut_all run_cut_arr run_cut_to setL set_self
open Go.RowKit Go.Proofs.Ytgflghnbpbiakaa.XH Go.Proofs.YtgflghnbpbiakaaW.PrintWords Go.Proofs.YtgflghnbpbiakaaW.PrintLast Go.Proofs.YtgflghnbpbiakaaW.PrintMore Go.Proofs.YtgflghnbpbiakaaXe Go.Proofs.YtgflghnbpbiakaaXs
set_option linter.unusedVariables false
set_option linter.unusedSimpArgs false
attribute [local go_sem ↓] Go.wp_at_zero Go.wp_at_succ
attribute [local go_sem] valUpon
open Go.Proofs.Ytgflghnbpbiakaa.D hiding c_len c_new c_write
attribute [local go_sem ↓ high] bn23 bn25 lda
attribute [local go_sem high] BN25.z
theorem loadS_root (S : DS) : (loadS S).root.length = 32 := by
  unfold loadS
  split
  · rfl
  · split
    · exact unpS_root _
    · rfl
theorem kind_ne {k : Int} {n : Int} (h : k ≠ n) : (k == n) = false := beq_eq_false_iff_ne.2 h
set_option maxHeartbeats 8000000 in
set_option maxRecDepth 100000 in
theorem superScript_law (n : Int) (A : Option Addr) (c : Nat) (l : List XH.S64) (w : World) (h : Kd.C XH.k64 w A l.length l) (hc : l.length ≤ c) (hw : ∀ x ∈ l, wfA x) : Calls Try.prog 7 #[.int .i64 n, .slice A l.length c] w fun e w' => e = .returned (.bool true) ∧ Below w.heap.size w w' := by
  have HC := Aside0.mk h
  have HW := Aside0.mk hw
  have HM := Aside0.mk (Kd.C_max h)
  obtain ⟨kl, rl, hrl, hok⟩ := large_tells l (Kd.C_max h)
  have CLG := Aside0.mk (fun w' (h : Kd.C XH.k64 w' A l.length l) => retconlaw13_large.calls kl A c l rl w' h hc hrl)
  have HOK := Aside0.mk hok
  have HP := Aside0.mk (Hp.start w)
  clear h hw hc hrl hok
  by_cases hn : n < 0 ∨ 65536 < n
  · have CA := Aside0.mk (fun w => c_newE n hn w)
    have CB := Aside0.mk (fun w => c_rnewE n hn w)
    clear hn
    go_enter Try.func7, Try.ntmps7
    go_wp2_with fail
    refine (CA.out _).mono ?_; rintro e w_ ⟨rfl, rfl⟩
    go_wp2_with fail
    refine (CB.out _).mono ?_; rintro e w_ ⟨rfl, rfl⟩
    go_wp2_with fail
    refine (CLG.out _ HC.out).mono ?_; rintro e w_ ⟨rfl, n_, rfl⟩; have HPn := Aside0.mk (HP.out.drewN n_); clear HP; have HP := HPn; clear HPn
    clear HOK CLG
    cases rl <;> (
      go_wp2_with fail
      refine (c_awake _).mono ?_; rintro e w2 ⟨rfl, hb⟩; have HPn := Aside0.mk (HP.out.call hb); clear HP; have HP := HPn; clear HPn; clear hb
      go_wp2_with fail
      go_ret
      exact ⟨rfl, HP.out.below⟩)
  have HN := Aside0.mk (show 0 ≤ n ∧ n ≤ 65536 by omega)
  clear hn
  go_enter Try.func7, Try.ntmps7
  go_wp2_with fail
  have CC := Aside0.mk (c_newD HP.out n HN.out.1 HN.out.2)
  refine CC.out.mono ?_; rintro e w1 ⟨g1, rfl, hpn⟩
  clear HP CC
  have HP := Aside0.mk hpn
  clear hpn
  go_wp2_with fail
  have CC := Aside0.mk (c_rnew HP.out n HN.out.1 HN.out.2)
  refine CC.out.mono ?_; rintro e w2 ⟨g2, rfl, hpn⟩
  clear HP CC
  have HP := Aside0.mk hpn
  clear hpn
  go_wp2_with fail
  refine (CLG.out _ (Kd.C_below HC.out HP.out.below)).mono ?_; rintro e w_ ⟨rfl, n_, rfl⟩; have HPn := Aside0.mk (HP.out.drewN n_); clear HP; have HP := HPn; clear HPn
  obtain ⟨w3, hw3⟩ : ∃ z, w2.drewN n_ = z := ⟨_, rfl⟩
  rw [hw3] at HP ⊢
  clear hw3 CLG
  cases rl with
  | true =>
    clear HOK
    go_wp2_with fail
    refine (c_awake _).mono ?_; rintro e w4 ⟨rfl, hb⟩; have HPn := Aside0.mk (HP.out.call hb); clear HP; have HP := HPn; clear HPn; clear hb
    go_wp2_with fail
    go_ret
    exact ⟨rfl, HP.out.below⟩
  | false =>
    have HKO := Aside0.mk (HOK.out rfl)
    have hll : (l.length : Int) ≤ 40 := by have := HKO.out.1; omega
    clear HOK
    go_wp2_with fail
    go_loopg [9, 10, 11, 12, 13, 14, 15, 16] l.length (fun kq v9 v10 v11 v12 v13 v14 v15 v16 w' => ∃ (j : Nat) (x : Int) (S : DS) (R : RS) (ex : List Pt), v9 = .int .i64 x ∧ Aside0 (x = (j : Int)) ∧ Aside0 (kq + j = l.length) ∧ Aside0 (Inv S R j) ∧ Aside0 (Hp w w' [rRef w.heap.size g2 R ex, rDisk w.heap.size g1 S]))
    case atStart => exact ⟨0, 0, newS n, newR n, [], rfl, ⟨rfl⟩, ⟨rfl⟩, ⟨inv_new n⟩, HP⟩
    clear HP
    obtain ⟨j, x, S, R, ex, rfl, HX, HJ, HI, HP⟩ := hrel
    have hx := HX.out
    by_cases c1 : j < l.length
    rotate_left
    · have d1 : decide (x < (l.length : Int)) = false := decide_eq_false (by omega)
      clear hx c1
      go_wp2_with fail
      refine (c_awake _).mono ?_; rintro e w4 ⟨rfl, hb⟩; have HPn := Aside0.mk (HP.out.call hb); clear HP; have HP := HPn; clear HPn; clear hb
      go_wp2_with fail
      go_ret
      exact ⟨rfl, HP.out.below⟩
    have d1 : decide (x < (l.length : Int)) = true := decide_eq_true (by omega)
    have ex_ : IntKind.i64.wrap (x + 1) = x + 1 := IntWalk.i64_in _ (by omega)
    have p0 : 0 ≤ x := by omega
    have q0 : x < (l.length : Int) := by omega
    obtain ⟨a, ha⟩ : ∃ p, l[j]? = some p := ⟨_, List.getElem?_eq_getElem c1⟩
    obtain ⟨Ab, Ao, rfl⟩ := C_addrK (by decide) HC.out (by omega)
    obtain ⟨A3, c3, A4, c4, hr, l3, g3, l4, g4⟩ := act_range HC.out ha
    have hxt : x.toNat = j := by omega
    have hlt : Ab < w.heap.size := by
      have k0 := hr 0 _ rfl
      rcases Nat.lt_or_ge Ab w.heap.size with h | h
      · exact h
      · rw [World.cell?, Array.getElem?_eq_none h] at k0; cases k0
    have hrw : wr.rangeAt Ab (Ao + x.toNat * 39) (acV a A3 c3 A4 c4) := fun k v hv => (HP.out.below.cell (p := ⟨Ab, _, none⟩) (by exact hlt)).trans (by rw [hxt]; exact hr k v hv)
    have hld := LDA.of hrw (acV_len _ _ _ _ _)
    have HAW := Aside0.mk (HW.out a (List.mem_of_getElem? ha))
    have HAO := Aside0.mk (HKO.out.2 a (List.mem_of_getElem? ha))
    have HG3 := Aside0.mk g3
    have HG4 := Aside0.mk g4
    have HL39 := Aside0.mk (And.intro (acV_len a A3 c3 A4 c4) (acV_one a A3 c3 A4 c4))
    have HRS := Aside0.mk (fun {w : World} {g : Nat} {t : TypeId} {fr : Nat × Nat} (h : w.heap[g]? = some (.cells (acV a A3 c3 A4 c4).toArray t fr)) => acV_s a A3 c3 A4 c4 h)
    have HC0 := Aside0.mk (show (acV a A3 c3 A4 c4)[0]? = some (.int .i64 a.f0) from rfl)
    have HC1 := Aside0.mk (show (acV a A3 c3 A4 c4)[1]? = some (.int .i64 a.f1) from rfl)
    have HC37 := Aside0.mk (acV_37 a A3 c3 A4 c4)
    have HC38 := Aside0.mk (acV_38 a A3 c3 A4 c4)
    obtain ⟨cs, hcs⟩ : ∃ z, acV a A3 c3 A4 c4 = z := ⟨_, rfl⟩
    rw [hcs] at hld HL39 HRS HC0 HC1 HC37 HC38
    have HSL := Aside0.mk (And.intro (c25_len (spOf a.f2) (by23_len _)) HAW.out.root)
    have CSV := Aside0.mk (fun w' Rs' HP i g S hi hok => c_save (w0 := w) (w := w') (Rs := Rs') HP i g S hi hok (spOf a.f2) (by23_len _))
    have CRS := Aside0.mk (fun w' Rs' HP i g R ex hi S hS hok hlf => c_rsave (w0 := w) (w := w') (Rs := Rs') HP i g R ex hi S hS hok hlf (spOf a.f2) (by23_len _) HAW.out.root)
    obtain ⟨cS, hcS⟩ : ∃ z, c25 (spOf a.f2) = z := ⟨_, rfl⟩
    rw [hcS] at HRS HSL CSV CRS
    obtain ⟨k, hk⟩ : ∃ z, a.f0 = z := ⟨_, rfl⟩
    rw [hk] at HC0
    have HJJ := Aside0.mk (show j < 40 by have := HKO.out.1; omega)
    have HSB := Aside0.mk (show S.l.length ≤ 1000 ∧ R.soft.length ≤ 1000 ∧ R.firm.length ≤ 50000 from ⟨by have := HI.out.l; have := HI.out.j; omega, by have := HI.out.soft; have := HI.out.l; have := HI.out.j; omega, by have := HI.out.f; have := HI.out.j; omega⟩)
    clear hx c1 hxt hlt hrw hr l3 g3 l4 g4 ha hcs hcS hk
    go_upto_block 2 with (first | ((with_reducible refine gate_dst (N := 10) rfl ?_); refine ev_alloc rfl 64 rfl (.agg zA.toArray) (by kernel_rfl) ?_; intro g_a wa hge hg hb; have HPn := Aside0.mk (HP.out.newB hb hg hge); clear HP; have HP := HPn; clear HPn; clear hge hg hb) | ((with_reducible refine gate_store (t := 64) (p := 10) rfl ?_); refine ev_store rfl 64 (.tmp 10) (.tmp 64) rfl rfl _ rfl (cells := cs.toArray) rfl (HP.out.blk 0 rfl) (by rw [List.size_toArray, HL39.out.1]; kernel_rfl) (show zA.toArray.size = cs.toArray.size from by rw [List.size_toArray, List.size_toArray, HL39.out.1]; rfl) HL39.out.2 ?_; intro wz hg hgr; have HPn := Aside0.mk (HP.out.setB 0 rfl hgr hg); clear HP; have HP := HPn; clear HPn; clear hg hgr; have hc0 := cell_in (HP.out.blk 0 rfl) 0 HC0.out; have hc1 := cell_in (HP.out.blk 0 rfl) 1 HC1.out; have hc37 := cell_in (HP.out.blk 0 rfl) 37 HC37.out; have hc38 := cell_in (HP.out.blk 0 rfl) 38 HC38.out))
    clear hld hc0
    go_cut [] from 55 to 159 (fun wc => ∃ (T : DS) (Q : RS) (ex2 : List Pt), Aside0 (Inv T Q (j + 1)) ∧ Aside0 (Hp w wc [.blk g_a (.cells cs.toArray 64 (0, 0)), rRef w.heap.size g2 Q ex2, rDisk w.heap.size g1 T]))
    case first =>
      by_cases e0 : k = 0
      · have d0 : (k == 0) = true := beq_iff_eq.2 e0
        clear e0
        clear hc1 hc37 hc38
        obtain ⟨q, hq⟩ : ∃ z, saveE S (spOf a.f2) = z := ⟨_, rfl⟩
        have dq : (q != q) = false := bne_self_eq_false q
        go_wp2_with fail
        refine held_named (S := (fun w' => w'.rangeAt g_a 2 cS)) (by kernel_rfl) (fun wd1 hwd1 => ?_)
        have HPn := Aside0.mk (HP.out.drewN 1)
        rw [← World.drew_is_drewN, hwd1] at HPn
        clear HP hwd1
        have HP := HPn
        clear HPn
        refine ⟨by (try dsimp only); exact HRS.out (HP.out.blk 0 rfl), fun hHeld => ?_⟩
        refine wpAnyH_take (i := 0) (oi := ({ dst := (some 69), op := (Op.move (Operand.tmp 5)), type := 38, pos := "law.go:57", after := #[], guard := none } : Oper)) (v := ?_) rfl (by kernel_rfl) (by kernel_rfl) (by kernel_rfl) (fun _ _ _ h => h) (Or.inl ⟨by rfl, ?_⟩) hHeld ?_
        rotate_left
        · intro w_ hSw; (try dsimp only at hSw); go_simp; try (with_reducible rfl)
        try simp only [Act.put, List.setIfInBounds_toArray, List.set_cons_zero, List.set_cons_succ]
        refine wpAnyH_take (i := 1) (oi := ({ dst := (some 70), op := (Op.fieldAddr 64 (Operand.tmp 10) 2), type := 0, pos := "law.go:57", after := #[], guard := none } : Oper)) (v := ?_) rfl (by kernel_rfl) (by kernel_rfl) (by kernel_rfl) (fun _ _ _ h => h) (Or.inl ⟨by rfl, ?_⟩) hHeld ?_
        rotate_left
        · intro w_ hSw; (try dsimp only at hSw); go_simp; try (with_reducible rfl)
        try simp only [Act.put, List.setIfInBounds_toArray, List.set_cons_zero, List.set_cons_succ]
        refine wpAnyH_take (i := 2) (oi := ({ dst := (some 71), op := (Op.load 25 (Operand.tmp 70)), type := 25, pos := "law.go:57", after := #[{ on := 1, ground := Ground.data }], guard := none } : Oper)) (v := _) rfl (by kernel_rfl) (by kernel_rfl) (by kernel_rfl) (fun _ _ _ h => h) (yieldsIf_load_mid (by rfl) _ _ rfl _ _ rfl _ _ (fun w h => h) Try.underlying25 rfl (by rw [HSL.out.1]; kernel_rfl)) hHeld ?_
        try simp only [Act.put, List.setIfInBounds_toArray, List.set_cons_zero, List.set_cons_succ]
        refine wpAnyH_take (i := 4) (oi := ({ dst := (some 73), op := (Op.move (Operand.tmp 7)), type := 58, pos := "law.go:57", after := #[], guard := none } : Oper)) (v := ?_) rfl (by kernel_rfl) (by kernel_rfl) (by kernel_rfl) (fun _ _ _ h => h) (Or.inl ⟨by rfl, ?_⟩) hHeld ?_
        rotate_left
        · intro w_ hSw; (try dsimp only at hSw); go_simp; try (with_reducible rfl)
        try simp only [Act.put, List.setIfInBounds_toArray, List.set_cons_zero, List.set_cons_succ]
        refine wpAnyH_take (i := 5) (oi := ({ dst := (some 74), op := (Op.fieldAddr 64 (Operand.tmp 10) 2), type := 0, pos := "law.go:57", after := #[], guard := none } : Oper)) (v := ?_) rfl (by kernel_rfl) (by kernel_rfl) (by kernel_rfl) (fun _ _ _ h => h) (Or.inl ⟨by rfl, ?_⟩) hHeld ?_
        rotate_left
        · intro w_ hSw; (try dsimp only at hSw); go_simp; try (with_reducible rfl)
        try simp only [Act.put, List.setIfInBounds_toArray, List.set_cons_zero, List.set_cons_succ]
        refine wpAnyH_take (i := 6) (oi := ({ dst := (some 75), op := (Op.load 25 (Operand.tmp 74)), type := 25, pos := "law.go:57", after := #[{ on := 5, ground := Ground.data }], guard := none } : Oper)) (v := _) rfl (by kernel_rfl) (by kernel_rfl) (by kernel_rfl) (fun _ _ _ h => h) (yieldsIf_load_mid (by rfl) _ _ rfl _ _ rfl _ _ (fun w h => h) Try.underlying25 rfl (by rw [HSL.out.1]; kernel_rfl)) hHeld ?_
        try simp only [Act.put, List.setIfInBounds_toArray, List.set_cons_zero, List.set_cons_succ]
        refine wpAnyH_ready (rs := [3]) (by kernel_rfl) (by simp) ?_
        refine AllReadyH.cons (o := ({ dst := (some 72), op := (Op.call { callee := (Callee.value (Operand.func 20)), args := #[(Operand.tmp 69), (Operand.tmp 71)], argTypes := #[38, 25] }), type := 28, pos := "law.go:57", after := #[{ on := 0, ground := Ground.data }, { on := 2, ground := Ground.data }], guard := none } : Oper)) rfl (fun K hK => ?_) AllReadyH.nil
        go_simp
        have CC := Aside0.mk (CSV.out _ _ HP.out 2 g1 S rfl HI.out.ok)
        rw [hq] at CC
        refine CC.out.mono ?_; rintro e wh ⟨rfl, hpn⟩
        clear HP CC
        have HP := Aside0.mk hpn
        clear hpn
        go_wp2_with fail
        clear hHeld
        refine hK.out _ _ ?_ (fun hHeld => ?_)
        · (try dsimp only); exact HRS.out (HP.out.blk 0 rfl)
        clear hK K
        try simp only [Act.put, List.setIfInBounds_toArray, List.set_cons_zero, List.set_cons_succ]
        refine wpAnyH_ready (rs := [7]) (by kernel_rfl) (by simp) ?_
        refine AllReadyH.cons (o := ({ dst := (some 76), op := (Op.call { callee := (Callee.value (Operand.func 29)), args := #[(Operand.tmp 73), (Operand.tmp 75)], argTypes := #[58, 25] }), type := 28, pos := "law.go:57", after := #[{ on := 4, ground := Ground.data }, { on := 6, ground := Ground.data }, { on := 3, ground := Ground.chain }], guard := none } : Oper)) rfl (fun K hK => ?_) AllReadyH.nil
        go_simp
        have CC := Aside0.mk (CRS.out _ _ HP.out 1 g2 R ex rfl S HI.out.sim HI.out.ok HSB.out.2.2)
        rw [hq] at CC
        refine CC.out.mono ?_; rintro e wi ⟨rfl, Q, ex2, hsm, hfm, hpn⟩
        clear HP CC
        have HP := Aside0.mk hpn
        clear hpn
        go_wp2_with fail
        clear hHeld
        refine hK.out _ _ ?_ (fun hHeld => ?_)
        · (try dsimp only); exact HRS.out (HP.out.blk 0 rfl)
        clear hK K
        try simp only [Act.put, List.setIfInBounds_toArray, List.set_cons_zero, List.set_cons_succ]
        refine wpAnyH_take (i := 8) (oi := ({ dst := (some 77), op := (Op.binOp BinOp.neq 28 (Operand.tmp 72) (Operand.tmp 76) 28), type := 4, pos := "law.go:57", after := #[{ on := 3, ground := Ground.data }, { on := 7, ground := Ground.data }], guard := none } : Oper)) (v := ?_) rfl (by kernel_rfl) (by kernel_rfl) (by kernel_rfl) (fun _ _ _ h => h) (Or.inl ⟨by rfl, ?_⟩) hHeld ?_
        rotate_left
        · intro w_ hSw; (try dsimp only at hSw); go_simp; try (with_reducible rfl)
        try simp only [Act.put, List.setIfInBounds_toArray, List.set_cons_zero, List.set_cons_succ]
        refine wpAnyH_done (by kernel_rfl) ?_ _
        clear hHeld
        have HIn := Aside0.mk (inv_save HI.out HJJ.out (spOf a.f2) (by23_len _) HAW.out.root hsm hfm)
        clear HI hsm hfm
        have HI := HIn
        clear HIn
        obtain ⟨T, hT⟩ : ∃ z, saveS S (spOf a.f2) = z := ⟨_, rfl⟩
        rw [hT] at HP HI
        clear hT
        clear hq
        go_wp2_with fail
        go_meet
        case rel => exact ⟨T, Q, ex2, HI, HP⟩
      have d0 : (k == 0) = false := kind_ne e0
      clear e0
      by_cases e2 : k = 2
      · have d2 : (k == 2) = true := beq_iff_eq.2 e2
        clear e2
        go_wp2_with fail
        have CC := Aside0.mk (c_fuseD HP.out 2 g1 S rfl a.f1)
        refine CC.out.mono ?_; rintro e wh ⟨rfl, hpn⟩
        clear HP CC
        have HP := Aside0.mk hpn
        clear hpn
        clear hc1 hc37 hc38
        have hc1 := cell_in (HP.out.blk 0 rfl) 1 HC1.out
        have hc37 := cell_in (HP.out.blk 0 rfl) 37 HC37.out
        have hc38 := cell_in (HP.out.blk 0 rfl) 38 HC38.out
        go_wp2_with fail
        have CC := Aside0.mk (c_rfuse HP.out 1 g2 R ex rfl a.f1)
        refine CC.out.mono ?_; rintro e wi ⟨rfl, hpn⟩
        clear HP CC
        have HP := Aside0.mk hpn
        clear hpn
        clear hc1 hc37 hc38
        have HIn := Aside0.mk (inv_fuse HI.out HJJ.out a.f1 HAW.out.n).2
        clear HI
        have HI := HIn
        clear HIn
        obtain ⟨T, hT⟩ : ∃ z, fuseS S a.f1 = z := ⟨_, rfl⟩
        rw [hT] at HP HI
        clear hT
        obtain ⟨Q, hQ⟩ : ∃ z, fuseR R a.f1 = z := ⟨_, rfl⟩
        rw [hQ] at HP HI
        clear hQ
        obtain ⟨ex2, hE⟩ : ∃ z, ex = z := ⟨_, rfl⟩
        rw [hE] at HP
        clear hE
        go_wp2_with fail
        go_meet
        case rel => exact ⟨T, Q, ex2, HI, HP⟩
      have d2 : (k == 2) = false := kind_ne e2
      clear e2
      by_cases e3 : k = 3
      · have d3 : (k == 3) = true := beq_iff_eq.2 e3
        clear e3
        go_wp2_with fail
        have CC := Aside0.mk (c_crashD HP.out 2 g1 S rfl A3 c3 a.f3 (by have := HAO.out.1; omega) (Rd.below HG3.out) a.f1 (by have := HSB.out.1; omega))
        refine CC.out.mono ?_; rintro e wh ⟨rfl, hpn⟩
        clear HP CC
        have HP := Aside0.mk hpn
        clear hpn
        clear hc1 hc37 hc38
        have hc1 := cell_in (HP.out.blk 0 rfl) 1 HC1.out
        have hc37 := cell_in (HP.out.blk 0 rfl) 37 HC37.out
        have hc38 := cell_in (HP.out.blk 0 rfl) 38 HC38.out
        go_wp2_with fail
        have CC := Aside0.mk (c_rcrashD HP.out 1 g2 R ex rfl S j HI.out HJJ.out A3 c3 a.f3 (by have := HAO.out.1; omega) (fun w' hb => Kd.C_below HG3.out hb) a.f1)
        refine CC.out.mono ?_; rintro e wi ⟨rfl, Q, ex2, hin, hpn⟩
        clear HP CC
        have HP := Aside0.mk hpn
        clear hpn
        clear hc1 hc37 hc38 HI
        have HI := Aside0.mk hin
        clear hin
        obtain ⟨T, hT⟩ : ∃ z, crashS S a.f3 a.f1 = z := ⟨_, rfl⟩
        rw [hT] at HP HI
        clear hT
        go_wp2_with fail
        go_meet
        case rel => exact ⟨T, Q, ex2, HI, HP⟩
      have d3 : (k == 3) = false := kind_ne e3
      clear e3
      by_cases e4 : k = 4
      · have d4 : (k == 4) = true := beq_iff_eq.2 e4
        clear e4
        go_wp2_with fail
        have CC := Aside0.mk (D.c_write HP.out 2 g1 S rfl a.f1 A4 c4 a.f4 (by have := HAO.out.2; omega) (Rd.below HG4.out) (by have := HSB.out.1; omega))
        refine CC.out.mono ?_; rintro e wh ⟨rfl, hpn⟩
        clear HP CC
        have HP := Aside0.mk hpn
        clear hpn
        clear hc1 hc37 hc38
        have hc1 := cell_in (HP.out.blk 0 rfl) 1 HC1.out
        have hc37 := cell_in (HP.out.blk 0 rfl) 37 HC37.out
        have hc38 := cell_in (HP.out.blk 0 rfl) 38 HC38.out
        go_wp2_with fail
        have CC := Aside0.mk (c_rwrite HP.out 1 g2 R ex rfl (by have := HSB.out.2.1; omega) a.f1 A4 c4 a.f4 (by have := HAO.out.2; omega) (Rd.below HG4.out) HAW.out.b)
        refine CC.out.mono ?_; rintro e wi ⟨rfl, v_, hpn⟩
        clear HP CC
        have HP := Aside0.mk hpn
        clear hpn
        clear hc1 hc37 hc38
        have HIn := Aside0.mk (inv_write HI.out HJJ.out a.f1 a.f4 HAW.out.b v_).2
        clear HI
        have HI := HIn
        clear HIn
        obtain ⟨T, hT⟩ : ∃ z, writeS S a.f1 a.f4 = z := ⟨_, rfl⟩
        rw [hT] at HP HI
        clear hT
        obtain ⟨Q, hQ⟩ : ∃ z, writeR R a.f1 a.f4 v_ = z := ⟨_, rfl⟩
        rw [hQ] at HP HI
        clear hQ
        obtain ⟨ex2, hE⟩ : ∃ z, ex = z := ⟨_, rfl⟩
        rw [hE] at HP
        clear hE
        go_wp2_with fail
        go_meet
        case rel => exact ⟨T, Q, ex2, HI, HP⟩
      have d4 : (k == 4) = false := kind_ne e4
      clear e4
      go_wp2_with fail
      go_meet
      case rel => exact ⟨S, R, ex, ⟨inv_same HI.out HJJ.out⟩, HP⟩
    case rest =>
      clear HI HP hc1 hc37 hc38
      obtain ⟨T, Q, ex2, HI, HP⟩ := hcut
      have HRT := Aside0.mk (loadS_root T)
      have heq := eq25_run (loadS T) (loadS T) (loadS_root T) (loadS_root T) rfl
      have HLU := Aside0.mk (And.intro (c25_len (loadS T) HRT.out) (c25_one (loadS T)))
      obtain ⟨cu, hcu⟩ : ∃ z, c25 (loadS T) = z := ⟨_, rfl⟩
      rw [hcu] at heq HLU
      obtain ⟨kk, hkk⟩ : ∃ z, loadK T = z := ⟨_, rfl⟩
      obtain ⟨ee, hee⟩ : ∃ z, loadE T = z := ⟨_, rfl⟩
      have HLV := Aside0.mk (And.intro hcu (And.intro hkk hee))
      clear hcu hkk hee
      go_wp2_with fail
      have CC := Aside0.mk (c_load HP.out 2 g1 T rfl HI.out.ok)
      rw [HLV.out.1, HLV.out.2.1, HLV.out.2.2] at CC
      refine CC.out.mono ?_; rintro e wb ⟨rfl, hpn⟩
      clear HP CC
      have HP := Aside0.mk hpn
      clear hpn
      go_wp2_with (first | ((with_reducible refine gate_dst (N := 11) rfl ?_); refine ev_alloc rfl 25 rfl (.agg (c25 s0).toArray) (by kernel_rfl) ?_; intro g_u wc hge hg hb; have HPn := Aside0.mk (HP.out.newB hb hg hge); clear HP; have HP := HPn; clear HPn; clear hge hg hb) | ((with_reducible refine gate_store (t := 25) (p := 11) rfl ?_); refine ev_store rfl 25 (.tmp 11) (.tmp 119) rfl rfl _ rfl (cells := cu.toArray) rfl (HP.out.blk 0 rfl) (by rw [List.size_toArray, HLU.out.1]; kernel_rfl) (show (c25 s0).toArray.size = cu.toArray.size from by rw [List.size_toArray, List.size_toArray, HLU.out.1, c25_len s0 rfl]) HLU.out.2 ?_; intro wd hg hgr; have HPn := Aside0.mk (HP.out.setB 0 rfl hgr hg); clear HP; have HP := HPn; clear HPn; clear hg hgr))
      have CC := Aside0.mk (c_rload HP.out 2 g2 Q ex2 rfl T HI.out.sim HI.out.ok (by have := HI.out.f; have := HI.out.j; omega))
      rw [HLV.out.1, HLV.out.2.1, HLV.out.2.2] at CC
      refine CC.out.mono ?_; rintro e we ⟨rfl, hpn⟩
      clear HP CC
      have HP := Aside0.mk hpn
      clear hpn
      go_wp2_with (first | ((with_reducible refine gate_dst (N := 14) rfl ?_); refine ev_alloc rfl 25 rfl (.agg (c25 s0).toArray) (by kernel_rfl) ?_; intro g_v wf hge hg hb; have HPn := Aside0.mk (HP.out.newB hb hg hge); clear HP; have HP := HPn; clear HPn; clear hge hg hb) | ((with_reducible refine gate_store (t := 25) (p := 14) rfl ?_); refine ev_store rfl 25 (.tmp 14) (.tmp 125) rfl rfl _ rfl (cells := cu.toArray) rfl (HP.out.blk 0 rfl) (by rw [List.size_toArray, HLU.out.1]; kernel_rfl) (show (c25 s0).toArray.size = cu.toArray.size from by rw [List.size_toArray, List.size_toArray, HLU.out.1, c25_len s0 rfl]) HLU.out.2 ?_; intro wg hg hgr; have HPn := Aside0.mk (HP.out.setB 0 rfl hgr hg); clear HP; have HP := HPn; clear HPn; clear hg hgr))
      obtain ⟨v1, v2, ps, hm, HP1⟩ := Hp.openR HP.out 3 g2 Q ex2 rfl
      obtain ⟨A_s, c_s, rfl⟩ := Kd.R_slice (HP1.row 2 rfl)
      have HMM := Aside0.mk hm
      clear HP hm
      have HP := Aside0.mk HP1
      clear HP1
      have HST := Aside0.mk (And.intro HI.out.sim.steps HI.out.soft.symm)
      refine held_named (S := (fun w' => w'.rangeAt g_u 0 cu ∧ w'.rangeAt g_v 0 cu ∧ w'.cell? ⟨g2, 5, none⟩ = some (.int .i64 Q.count) ∧ w'.cell? ⟨g2, 2, none⟩ = some (.slice A_s Q.soft.length c_s))) (by kernel_rfl) (fun wd0 hwd0 => ?_)
      have HPn := Aside0.mk (HP.out.drewN 1)
      rw [← World.drew_is_drewN, hwd0] at HPn
      clear HP hwd0
      have HP := HPn
      clear HPn
      refine ⟨by (try dsimp only); exact ⟨rangeB (HP.out.blk 5 rfl), rangeB (HP.out.blk 4 rfl), blk_cell (HP.out.blk 0 rfl) 5, blk_cell (HP.out.blk 0 rfl) 2⟩, fun hHeld => ?_⟩
      refine wpAnyH_take (i := 0) (oi := ({ dst := (some 128), op := (Op.load 25 (Operand.tmp 11)), type := 25, pos := "law.go:72", after := #[], guard := none } : Oper)) (v := _) rfl (by kernel_rfl) (by kernel_rfl) (by kernel_rfl) (fun _ _ _ h => h) (yieldsIf_load_mid (by rfl) _ _ rfl _ _ rfl _ _ (fun w h => h.1) Try.underlying25 rfl (by rw [HLU.out.1]; kernel_rfl)) hHeld ?_
      try simp only [Act.put, List.setIfInBounds_toArray, List.set_cons_zero, List.set_cons_succ]
      refine wpAnyH_take (i := 1) (oi := ({ dst := (some 129), op := (Op.load 25 (Operand.tmp 14)), type := 25, pos := "law.go:72", after := #[], guard := none } : Oper)) (v := _) rfl (by kernel_rfl) (by kernel_rfl) (by kernel_rfl) (fun _ _ _ h => h) (yieldsIf_load_mid (by rfl) _ _ rfl _ _ rfl _ _ (fun w h => h.2.1) Try.underlying25 rfl (by rw [HLU.out.1]; kernel_rfl)) hHeld ?_
      try simp only [Act.put, List.setIfInBounds_toArray, List.set_cons_zero, List.set_cons_succ]
      refine wpAnyH_take (i := 2) (oi := ({ dst := (some 130), op := (Op.binOp BinOp.neq 25 (Operand.tmp 128) (Operand.tmp 129) 25), type := 4, pos := "law.go:72", after := #[{ on := 0, ground := Ground.data }, { on := 1, ground := Ground.data }], guard := none } : Oper)) (v := ?_) rfl (by kernel_rfl) (by kernel_rfl) (by kernel_rfl) (fun _ _ _ h => h) (Or.inl ⟨by rfl, ?_⟩) hHeld ?_
      rotate_left
      · intro w_ hSw; (try dsimp only at hSw); go_simp; try (with_reducible rfl)
      try simp only [Act.put, List.setIfInBounds_toArray, List.set_cons_zero, List.set_cons_succ]
      refine wpAnyH_take (i := 3) (oi := ({ dst := (some 131), op := (Op.move (Operand.tmp 130)), type := 4, pos := "law.go:72", after := #[{ on := 2, ground := Ground.data }], guard := none } : Oper)) (v := ?_) rfl (by kernel_rfl) (by kernel_rfl) (by kernel_rfl) (fun _ _ _ h => h) (Or.inl ⟨by rfl, ?_⟩) hHeld ?_
      rotate_left
      · intro w_ hSw; (try dsimp only at hSw); go_simp; try (with_reducible rfl)
      try simp only [Act.put, List.setIfInBounds_toArray, List.set_cons_zero, List.set_cons_succ]
      refine wpAnyH_take (i := 4) (oi := ({ dst := (some 132), op := (Op.move (Operand.tmp 12)), type := 3, pos := "law.go:72", after := #[{ on := 3, ground := Ground.guard }], guard := (some (3, false)) } : Oper)) (v := ?_) rfl (by kernel_rfl) (by kernel_rfl) (by kernel_rfl) (fun _ _ _ h => h) (Or.inl ⟨by rfl, ?_⟩) hHeld ?_
      rotate_left
      · intro w_ hSw; (try dsimp only at hSw); go_simp; try (with_reducible rfl)
      try simp only [Act.put, List.setIfInBounds_toArray, List.set_cons_zero, List.set_cons_succ]
      refine wpAnyH_take (i := 5) (oi := ({ dst := (some 133), op := (Op.move (Operand.tmp 15)), type := 3, pos := "law.go:72", after := #[{ on := 3, ground := Ground.guard }], guard := (some (3, false)) } : Oper)) (v := ?_) rfl (by kernel_rfl) (by kernel_rfl) (by kernel_rfl) (fun _ _ _ h => h) (Or.inl ⟨by rfl, ?_⟩) hHeld ?_
      rotate_left
      · intro w_ hSw; (try dsimp only at hSw); go_simp; try (with_reducible rfl)
      try simp only [Act.put, List.setIfInBounds_toArray, List.set_cons_zero, List.set_cons_succ]
      refine wpAnyH_take (i := 6) (oi := ({ dst := (some 134), op := (Op.binOp BinOp.neq 3 (Operand.tmp 132) (Operand.tmp 133) 3), type := 4, pos := "law.go:72", after := #[{ on := 4, ground := Ground.data }, { on := 5, ground := Ground.data }, { on := 3, ground := Ground.guard }], guard := (some (3, false)) } : Oper)) (v := ?_) rfl (by kernel_rfl) (by kernel_rfl) (by kernel_rfl) (fun _ _ _ h => h) (Or.inl ⟨by rfl, ?_⟩) hHeld ?_
      rotate_left
      · intro w_ hSw; (try dsimp only at hSw); go_simp; try (with_reducible rfl)
      try simp only [Act.put, List.setIfInBounds_toArray, List.set_cons_zero, List.set_cons_succ]
      refine wpAnyH_take (i := 7) (oi := ({ dst := (some 135), op := (Op.pick (Operand.tmp 131) (Operand.const (Value.bool true)) (Operand.tmp 134)), type := 4, pos := "law.go:72", after := #[{ on := 3, ground := Ground.data }, { on := 6, ground := Ground.data }], guard := none } : Oper)) (v := ?_) rfl (by kernel_rfl) (by kernel_rfl) (by kernel_rfl) (fun _ _ _ h => h) (Or.inl ⟨by rfl, ?_⟩) hHeld ?_
      rotate_left
      · intro w_ hSw; (try dsimp only at hSw); go_simp; try (with_reducible rfl)
      try simp only [Act.put, List.setIfInBounds_toArray, List.set_cons_zero, List.set_cons_succ]
      refine wpAnyH_take (i := 8) (oi := ({ dst := (some 136), op := (Op.move (Operand.tmp 135)), type := 4, pos := "law.go:72", after := #[{ on := 7, ground := Ground.data }, { on := 3, ground := Ground.chain }], guard := none } : Oper)) (v := ?_) rfl (by kernel_rfl) (by kernel_rfl) (by kernel_rfl) (fun _ _ _ h => h) (Or.inl ⟨by rfl, ?_⟩) hHeld ?_
      rotate_left
      · intro w_ hSw; (try dsimp only at hSw); go_simp; try (with_reducible rfl)
      try simp only [Act.put, List.setIfInBounds_toArray, List.set_cons_zero, List.set_cons_succ]
      refine wpAnyH_take (i := 9) (oi := ({ dst := (some 137), op := (Op.move (Operand.tmp 13)), type := 28, pos := "law.go:72", after := #[{ on := 8, ground := Ground.guard }], guard := (some (8, false)) } : Oper)) (v := ?_) rfl (by kernel_rfl) (by kernel_rfl) (by kernel_rfl) (fun _ _ _ h => h) (Or.inl ⟨by rfl, ?_⟩) hHeld ?_
      rotate_left
      · intro w_ hSw; (try dsimp only at hSw); go_simp; try (with_reducible rfl)
      try simp only [Act.put, List.setIfInBounds_toArray, List.set_cons_zero, List.set_cons_succ]
      refine wpAnyH_take (i := 10) (oi := ({ dst := (some 138), op := (Op.move (Operand.tmp 16)), type := 28, pos := "law.go:72", after := #[{ on := 8, ground := Ground.guard }], guard := (some (8, false)) } : Oper)) (v := ?_) rfl (by kernel_rfl) (by kernel_rfl) (by kernel_rfl) (fun _ _ _ h => h) (Or.inl ⟨by rfl, ?_⟩) hHeld ?_
      rotate_left
      · intro w_ hSw; (try dsimp only at hSw); go_simp; try (with_reducible rfl)
      try simp only [Act.put, List.setIfInBounds_toArray, List.set_cons_zero, List.set_cons_succ]
      refine wpAnyH_take (i := 11) (oi := ({ dst := (some 139), op := (Op.binOp BinOp.neq 28 (Operand.tmp 137) (Operand.tmp 138) 28), type := 4, pos := "law.go:72", after := #[{ on := 9, ground := Ground.data }, { on := 10, ground := Ground.data }, { on := 8, ground := Ground.guard }], guard := (some (8, false)) } : Oper)) (v := ?_) rfl (by kernel_rfl) (by kernel_rfl) (by kernel_rfl) (fun _ _ _ h => h) (Or.inl ⟨by rfl, ?_⟩) hHeld ?_
      rotate_left
      · intro w_ hSw; (try dsimp only at hSw); go_simp; try (with_reducible rfl)
      try simp only [Act.put, List.setIfInBounds_toArray, List.set_cons_zero, List.set_cons_succ]
      refine wpAnyH_take (i := 12) (oi := ({ dst := (some 140), op := (Op.pick (Operand.tmp 136) (Operand.const (Value.bool true)) (Operand.tmp 139)), type := 4, pos := "law.go:72", after := #[{ on := 8, ground := Ground.data }, { on := 11, ground := Ground.data }], guard := none } : Oper)) (v := ?_) rfl (by kernel_rfl) (by kernel_rfl) (by kernel_rfl) (fun _ _ _ h => h) (Or.inl ⟨by rfl, ?_⟩) hHeld ?_
      rotate_left
      · intro w_ hSw; (try dsimp only at hSw); go_simp; try (with_reducible rfl)
      try simp only [Act.put, List.setIfInBounds_toArray, List.set_cons_zero, List.set_cons_succ]
      refine wpAnyH_take (i := 13) (oi := ({ dst := (some 141), op := (Op.move (Operand.tmp 140)), type := 4, pos := "law.go:72", after := #[{ on := 12, ground := Ground.data }, { on := 8, ground := Ground.chain }], guard := none } : Oper)) (v := ?_) rfl (by kernel_rfl) (by kernel_rfl) (by kernel_rfl) (fun _ _ _ h => h) (Or.inl ⟨by rfl, ?_⟩) hHeld ?_
      rotate_left
      · intro w_ hSw; (try dsimp only at hSw); go_simp; try (with_reducible rfl)
      try simp only [Act.put, List.setIfInBounds_toArray, List.set_cons_zero, List.set_cons_succ]
      refine wpAnyH_take (i := 14) (oi := ({ dst := (some 142), op := (Op.move (Operand.tmp 5)), type := 38, pos := "law.go:72", after := #[{ on := 13, ground := Ground.guard }], guard := (some (13, false)) } : Oper)) (v := ?_) rfl (by kernel_rfl) (by kernel_rfl) (by kernel_rfl) (fun _ _ _ h => h) (Or.inl ⟨by rfl, ?_⟩) hHeld ?_
      rotate_left
      · intro w_ hSw; (try dsimp only at hSw); go_simp; try (with_reducible rfl)
      try simp only [Act.put, List.setIfInBounds_toArray, List.set_cons_zero, List.set_cons_succ]
      refine wpAnyH_take (i := 16) (oi := ({ dst := (some 144), op := (Op.move (Operand.tmp 7)), type := 58, pos := "law.go:72", after := #[{ on := 13, ground := Ground.guard }], guard := (some (13, false)) } : Oper)) (v := ?_) rfl (by kernel_rfl) (by kernel_rfl) (by kernel_rfl) (fun _ _ _ h => h) (Or.inl ⟨by rfl, ?_⟩) hHeld ?_
      rotate_left
      · intro w_ hSw; (try dsimp only at hSw); go_simp; try (with_reducible rfl)
      try simp only [Act.put, List.setIfInBounds_toArray, List.set_cons_zero, List.set_cons_succ]
      refine wpAnyH_take (i := 17) (oi := ({ dst := (some 145), op := (Op.nilCheck (Operand.tmp 144)), type := 0, pos := "law.go:72", after := #[{ on := 16, ground := Ground.data }, { on := 13, ground := Ground.guard }], guard := (some (13, false)) } : Oper)) (v := ?_) rfl (by kernel_rfl) (by kernel_rfl) (by kernel_rfl) (fun _ _ _ h => h) (Or.inl ⟨by rfl, ?_⟩) hHeld ?_
      rotate_left
      · intro w_ hSw; (try dsimp only at hSw); go_simp; try (with_reducible rfl)
      try simp only [Act.put, List.setIfInBounds_toArray, List.set_cons_zero, List.set_cons_succ]
      refine wpAnyH_take (i := 18) (oi := ({ dst := (some 146), op := (Op.fieldAddr 72 (Operand.tmp 145) 5), type := 0, pos := "law.go:72", after := #[{ on := 17, ground := Ground.data }, { on := 13, ground := Ground.guard }], guard := (some (13, false)) } : Oper)) (v := ?_) rfl (by kernel_rfl) (by kernel_rfl) (by kernel_rfl) (fun _ _ _ h => h) (Or.inl ⟨by rfl, ?_⟩) hHeld ?_
      rotate_left
      · intro w_ hSw; (try dsimp only at hSw); go_simp; try (with_reducible rfl)
      try simp only [Act.put, List.setIfInBounds_toArray, List.set_cons_zero, List.set_cons_succ]
      refine wpAnyH_take (i := 19) (oi := ({ dst := (some 147), op := (Op.load 3 (Operand.tmp 146)), type := 3, pos := "law.go:72", after := #[{ on := 18, ground := Ground.data }, { on := 13, ground := Ground.guard }], guard := (some (13, false)) } : Oper)) (v := ?_) rfl (by kernel_rfl) (by kernel_rfl) (by kernel_rfl) (fun _ _ _ h => h) (Or.inl ⟨by rfl, ?_⟩) hHeld ?_
      rotate_left
      · intro w_ hSw; (try dsimp only at hSw); go_simp; try (with_reducible rfl)
      try simp only [Act.put, List.setIfInBounds_toArray, List.set_cons_zero, List.set_cons_succ]
      refine wpAnyH_ready (rs := [15]) (by kernel_rfl) (by simp) ?_
      refine AllReadyH.cons (o := ({ dst := (some 143), op := (Op.call { callee := (Callee.value (Operand.func 36)), args := #[(Operand.tmp 142)], argTypes := #[38] }), type := 3, pos := "law.go:72", after := #[{ on := 14, ground := Ground.data }, { on := 13, ground := Ground.chain }, { on := 13, ground := Ground.guard }], guard := (some (13, false)) } : Oper)) rfl (fun K hK => ?_) AllReadyH.nil
      go_simp
      have CC := Aside0.mk (c_stepsD HP.out 8 g1 T rfl)
      rw [HST.out.1] at CC
      refine CC.out.mono ?_; rintro e w_ ⟨rfl, rfl⟩
      clear CC
      go_wp2_with fail
      clear hHeld
      refine hK.out _ _ ?_ (fun hHeld => ?_)
      · (try dsimp only); exact ⟨rangeB (HP.out.blk 5 rfl), rangeB (HP.out.blk 4 rfl), blk_cell (HP.out.blk 0 rfl) 5, blk_cell (HP.out.blk 0 rfl) 2⟩
      clear hK K
      try simp only [Act.put, List.setIfInBounds_toArray, List.set_cons_zero, List.set_cons_succ]
      refine wpAnyH_take (i := 20) (oi := ({ dst := (some 148), op := (Op.binOp BinOp.neq 3 (Operand.tmp 143) (Operand.tmp 147) 3), type := 4, pos := "law.go:72", after := #[{ on := 15, ground := Ground.data }, { on := 19, ground := Ground.data }, { on := 13, ground := Ground.guard }], guard := (some (13, false)) } : Oper)) (v := ?_) rfl (by kernel_rfl) (by kernel_rfl) (by kernel_rfl) (fun _ _ _ h => h) (Or.inl ⟨by rfl, ?_⟩) hHeld ?_
      rotate_left
      · intro w_ hSw; (try dsimp only at hSw); go_simp; try (with_reducible rfl)
      try simp only [Act.put, List.setIfInBounds_toArray, List.set_cons_zero, List.set_cons_succ]
      refine wpAnyH_take (i := 21) (oi := ({ dst := (some 149), op := (Op.pick (Operand.tmp 141) (Operand.const (Value.bool true)) (Operand.tmp 148)), type := 4, pos := "law.go:72", after := #[{ on := 13, ground := Ground.data }, { on := 20, ground := Ground.data }], guard := none } : Oper)) (v := ?_) rfl (by kernel_rfl) (by kernel_rfl) (by kernel_rfl) (fun _ _ _ h => h) (Or.inl ⟨by rfl, ?_⟩) hHeld ?_
      rotate_left
      · intro w_ hSw; (try dsimp only at hSw); go_simp; try (with_reducible rfl)
      try simp only [Act.put, List.setIfInBounds_toArray, List.set_cons_zero, List.set_cons_succ]
      refine wpAnyH_take (i := 22) (oi := ({ dst := (some 150), op := (Op.move (Operand.tmp 149)), type := 4, pos := "law.go:72", after := #[{ on := 21, ground := Ground.data }, { on := 15, ground := Ground.chain }], guard := none } : Oper)) (v := ?_) rfl (by kernel_rfl) (by kernel_rfl) (by kernel_rfl) (fun _ _ _ h => h) (Or.inl ⟨by rfl, ?_⟩) hHeld ?_
      rotate_left
      · intro w_ hSw; (try dsimp only at hSw); go_simp; try (with_reducible rfl)
      try simp only [Act.put, List.setIfInBounds_toArray, List.set_cons_zero, List.set_cons_succ]
      refine wpAnyH_take (i := 23) (oi := ({ dst := (some 151), op := (Op.move (Operand.tmp 5)), type := 38, pos := "law.go:72", after := #[{ on := 22, ground := Ground.guard }], guard := (some (22, false)) } : Oper)) (v := ?_) rfl (by kernel_rfl) (by kernel_rfl) (by kernel_rfl) (fun _ _ _ h => h) (Or.inl ⟨by rfl, ?_⟩) hHeld ?_
      rotate_left
      · intro w_ hSw; (try dsimp only at hSw); go_simp; try (with_reducible rfl)
      try simp only [Act.put, List.setIfInBounds_toArray, List.set_cons_zero, List.set_cons_succ]
      refine wpAnyH_take (i := 25) (oi := ({ dst := (some 153), op := (Op.move (Operand.tmp 7)), type := 58, pos := "law.go:72", after := #[{ on := 22, ground := Ground.guard }], guard := (some (22, false)) } : Oper)) (v := ?_) rfl (by kernel_rfl) (by kernel_rfl) (by kernel_rfl) (fun _ _ _ h => h) (Or.inl ⟨by rfl, ?_⟩) hHeld ?_
      rotate_left
      · intro w_ hSw; (try dsimp only at hSw); go_simp; try (with_reducible rfl)
      try simp only [Act.put, List.setIfInBounds_toArray, List.set_cons_zero, List.set_cons_succ]
      refine wpAnyH_take (i := 26) (oi := ({ dst := (some 154), op := (Op.nilCheck (Operand.tmp 153)), type := 0, pos := "law.go:72", after := #[{ on := 25, ground := Ground.data }, { on := 22, ground := Ground.guard }], guard := (some (22, false)) } : Oper)) (v := ?_) rfl (by kernel_rfl) (by kernel_rfl) (by kernel_rfl) (fun _ _ _ h => h) (Or.inl ⟨by rfl, ?_⟩) hHeld ?_
      rotate_left
      · intro w_ hSw; (try dsimp only at hSw); go_simp; try (with_reducible rfl)
      try simp only [Act.put, List.setIfInBounds_toArray, List.set_cons_zero, List.set_cons_succ]
      refine wpAnyH_take (i := 27) (oi := ({ dst := (some 155), op := (Op.fieldAddr 72 (Operand.tmp 154) 2), type := 0, pos := "law.go:72", after := #[{ on := 26, ground := Ground.data }, { on := 22, ground := Ground.guard }], guard := (some (22, false)) } : Oper)) (v := ?_) rfl (by kernel_rfl) (by kernel_rfl) (by kernel_rfl) (fun _ _ _ h => h) (Or.inl ⟨by rfl, ?_⟩) hHeld ?_
      rotate_left
      · intro w_ hSw; (try dsimp only at hSw); go_simp; try (with_reducible rfl)
      try simp only [Act.put, List.setIfInBounds_toArray, List.set_cons_zero, List.set_cons_succ]
      refine wpAnyH_take (i := 28) (oi := ({ dst := (some 156), op := (Op.load 70 (Operand.tmp 155)), type := 70, pos := "law.go:72", after := #[{ on := 27, ground := Ground.data }, { on := 22, ground := Ground.guard }], guard := (some (22, false)) } : Oper)) (v := ?_) rfl (by kernel_rfl) (by kernel_rfl) (by kernel_rfl) (fun _ _ _ h => h) (Or.inl ⟨by rfl, ?_⟩) hHeld ?_
      rotate_left
      · intro w_ hSw; (try dsimp only at hSw); go_simp; try (with_reducible rfl)
      try simp only [Act.put, List.setIfInBounds_toArray, List.set_cons_zero, List.set_cons_succ]
      refine wpAnyH_take (i := 29) (oi := ({ dst := (some 157), op := (Op.call { callee := (Callee.builtin Builtin.len), args := #[(Operand.tmp 156)], argTypes := #[70] }), type := 3, pos := "law.go:72", after := #[{ on := 28, ground := Ground.data }, { on := 22, ground := Ground.guard }], guard := (some (22, false)) } : Oper)) (v := ?_) rfl (by kernel_rfl) (by kernel_rfl) (by kernel_rfl) (fun _ _ _ h => h) (Or.inl ⟨by rfl, ?_⟩) hHeld ?_
      rotate_left
      · intro w_ hSw; (try dsimp only at hSw); go_simp; try (with_reducible rfl)
      try simp only [Act.put, List.setIfInBounds_toArray, List.set_cons_zero, List.set_cons_succ]
      refine wpAnyH_ready (rs := [24]) (by kernel_rfl) (by simp) ?_
      refine AllReadyH.cons (o := ({ dst := (some 152), op := (Op.call { callee := (Callee.value (Operand.func 37)), args := #[(Operand.tmp 151)], argTypes := #[38] }), type := 3, pos := "law.go:72", after := #[{ on := 23, ground := Ground.data }, { on := 22, ground := Ground.chain }, { on := 22, ground := Ground.guard }], guard := (some (22, false)) } : Oper)) rfl (fun K hK => ?_) AllReadyH.nil
      go_simp
      have CC := Aside0.mk (c_looseD HP.out 8 g1 T rfl)
      rw [HST.out.2] at CC
      refine CC.out.mono ?_; rintro e w_ ⟨rfl, rfl⟩
      clear CC
      go_wp2_with fail
      clear hHeld
      refine hK.out _ _ ?_ (fun hHeld => ?_)
      · (try dsimp only); exact ⟨rangeB (HP.out.blk 5 rfl), rangeB (HP.out.blk 4 rfl), blk_cell (HP.out.blk 0 rfl) 5, blk_cell (HP.out.blk 0 rfl) 2⟩
      clear hK K
      try simp only [Act.put, List.setIfInBounds_toArray, List.set_cons_zero, List.set_cons_succ]
      refine wpAnyH_take (i := 30) (oi := ({ dst := (some 158), op := (Op.binOp BinOp.neq 3 (Operand.tmp 152) (Operand.tmp 157) 3), type := 4, pos := "law.go:72", after := #[{ on := 24, ground := Ground.data }, { on := 29, ground := Ground.data }, { on := 22, ground := Ground.guard }], guard := (some (22, false)) } : Oper)) (v := ?_) rfl (by kernel_rfl) (by kernel_rfl) (by kernel_rfl) (fun _ _ _ h => h) (Or.inl ⟨by rfl, ?_⟩) hHeld ?_
      rotate_left
      · intro w_ hSw; (try dsimp only at hSw); go_simp; try (with_reducible rfl)
      try simp only [Act.put, List.setIfInBounds_toArray, List.set_cons_zero, List.set_cons_succ]
      refine wpAnyH_take (i := 31) (oi := ({ dst := (some 159), op := (Op.pick (Operand.tmp 150) (Operand.const (Value.bool true)) (Operand.tmp 158)), type := 4, pos := "law.go:72", after := #[{ on := 22, ground := Ground.data }, { on := 30, ground := Ground.data }], guard := none } : Oper)) (v := ?_) rfl (by kernel_rfl) (by kernel_rfl) (by kernel_rfl) (fun _ _ _ h => h) (Or.inl ⟨by rfl, ?_⟩) hHeld ?_
      rotate_left
      · intro w_ hSw; (try dsimp only at hSw); go_simp; try (with_reducible rfl)
      try simp only [Act.put, List.setIfInBounds_toArray, List.set_cons_zero, List.set_cons_succ]
      refine wpAnyH_done (by kernel_rfl) ?_ _
      clear hHeld
      have HPd := Aside0.mk (Hp.closeR Q ex2 HMM.out (i := 3) (g := g2) (Rs := [.blk g_v (.cells cu.toArray 25 (0, 0)), .blk g_u (.cells cu.toArray 25 (0, 0)), .blk g_a (.cells cs.toArray 64 (0, 0)), rRef w.heap.size g2 Q ex2, rDisk w.heap.size g1 T]) (show 3 < 5 by decide) HP.out).drop1.drop1.drop1
      clear HP
      have HP := HPd
      clear HPd heq
      go_wp2_with fail
      go_roundg (gk - 1)
      case measure => have := HJ.out; have := HX.out; omega
      case rel => exact ⟨j + 1, x + 1, T, Q, ex2, rfl, ⟨by have := HX.out; omega⟩, ⟨by have := HJ.out; have := HX.out; omega⟩, HI, HP⟩
end Go.Proofs.Ytgflghnbpbiakaa.Su
