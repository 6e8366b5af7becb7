import Derived.Test.YtejfocliopbocaaD18
import Derived.Deep.LoopGhost
namespace Go.Proofs.Ytejfocliopbocaa.D
open Go.RowKit Go.Proofs.Ytejfocliopbocaa.XD Go.Proofs.YtejfocliopbocaaW.PrintWords Go.Proofs.YtejfocliopbocaaW.PrintLast Go.Proofs.YtejfocliopbocaaW.PrintMore Go.Proofs.YtejfocliopbocaaXe Go.Proofs.YtejfocliopbocaaXs
set_option linter.unusedVariables false
set_option linter.unusedSimpArgs false
attribute [local go_sem ↓] Go.wp_at_zero Go.wp_at_succ
structure St (S : DS) (at' : Int → List Int) (l : List (Int × List Int)) : Prop where
  fuse : S.fuse = -1
  out : S.out = false
  many : S.many = 4
  at_ : S.at' = at'
  l_ : S.l = l
theorem St.ready {S : DS} {f : Int → List Int} {l : List (Int × List Int)} (h : St S f l) {n : Int} (h0 : 0 ≤ n) (h1 : n < 4) : S.readyE n = 0 := by
  unfold DS.readyE readyD; rw [h.out, h.many, if_neg (by decide), if_neg (by omega)]
theorem St.write {S : DS} {f : Int → List Int} {l : List (Int × List Int)} (h : St S f l) {n : Int} (h0 : 0 ≤ n) (h1 : n < 4) (c : Int) : writeE S n (rp c) = 0 ∧ St (writeS S n (rp c)) f (l ++ [(n, rp c)]) := by
  have hr := h.ready h0 h1
  have hl : ¬ ((rp c).length ≠ 64) := by simp
  have hf : ¬ (S.fuse = 0) := by rw [h.fuse]; decide
  constructor
  · unfold writeE; rw [if_neg (by rw [hr]; decide), if_neg hl, if_neg hf]
  · unfold writeS
    rw [if_neg (by rw [hr]; decide), if_neg hl, if_neg hf]
    exact ⟨by show burn S.fuse = -1; rw [h.fuse]; decide, h.out, h.many, h.at_, by show S.l ++ _ = _; rw [h.l_]⟩
theorem St.flush {S : DS} {f : Int → List Int} {l : List (Int × List Int)} (h : St S f l) : flushE S = 0 ∧ St (flushS S) (putF f l) [] := by
  have hc : ¬ (S.out = true ∨ S.fuse = 0) := by rw [h.out, h.fuse]; decide
  constructor
  · unfold flushE; rw [if_neg hc]
  · unfold flushS
    rw [if_neg hc]
    exact ⟨by show burn S.fuse = -1; rw [h.fuse]; decide, h.out, h.many, by show putF S.at' S.l = _; rw [h.at_, h.l_], rfl⟩
theorem cell_int {w : World} {A : Option Addr} {n : Nat} {k : IntKind} {l : List Int} (h : (Kd.int k).C w A n l) {j : Nat} {x : Int} (hj : l[j]? = some x) : ∃ b o, A = some ⟨b, o, none⟩ ∧ w.cell? ⟨b, o + j, none⟩ = some (.int k x) := by
  have hl : j < l.length := (List.getElem?_eq_some_iff.1 hj).1
  obtain ⟨b, o, rfl⟩ := C_addrK (by exact Nat.one_pos) h (by have := h.1; omega)
  obtain ⟨cs, hcs, hr⟩ := range_K h hj
  have h2 : cs = [.int k x] := hcs
  subst h2
  have h3 := hr 0 _ rfl
  exact ⟨b, o, rfl, by simpa [show (Kd.int k).sz = 1 from rfl] using h3⟩
theorem cell_lt {w : World} {b o : Nat} {v : Value} (h : w.cell? ⟨b, o, none⟩ = some v) : b < w.heap.size := by
  rcases Nat.lt_or_ge b w.heap.size with h1 | h1
  · exact h1
  · rw [World.cell?, Array.getElem?_eq_none h1] at h; cases h
theorem wasF_byte (l : List Int) (h : ∀ x ∈ l, 0 ≤ x ∧ x < 256) : ∀ n : Int, 0 ≤ (wasF l).getD n.toNat 0 ∧ (wasF l).getD n.toNat 0 < 256 := by
  have hm : ∀ x ∈ wasF l, 0 ≤ x ∧ x < 256 := by
    induction l using List.reverseRecOn' with
    | nil => intro x hx; simp [wasF] at hx; subst hx; decide
    | snoc l c ih =>
      intro x hx
      rw [wasF_snoc] at hx
      rcases List.mem_or_eq_of_mem_set hx with h1 | h1
      · exact ih (fun y hy => h y (List.mem_append_left _ hy)) x h1
      · rw [h1]; exact h c (by simp)
  intro n
  rw [List.getD_eq_getElem?_getD]
  cases hq : (wasF l)[n.toNat]? with
  | none => decide
  | some x => exact hm x (List.mem_of_getElem? hq)
set_option maxHeartbeats 8000000 in
set_option maxRecDepth 100000 in
theorem diskLoose_law (A0 : Option Addr) (c0 : Nat) (l0 : List Int) (w : World) (hr0 : (Kd.int .u8).C w A0 l0.length l0) (hm0 : l0.length ≤ 9223372036854775807) (hw0 : ∀ x ∈ l0, 0 ≤ x ∧ x < 256) (A1 : Option Addr) (c1 : Nat) (l1 : List Int) (hr1 : (Kd.int .u8).C w A1 l1.length l1) (hc1 : l1.length ≤ c1) (hm1 : l1.length ≤ 9223372036854775807) (hw1 : ∀ x ∈ l1, 0 ≤ x ∧ x < 256) (A2 : Option Addr) (c2 : Nat) (l2 : List Bool) (hr2 : Kd.bool.C w A2 l2.length l2) (hm2 : l2.length ≤ 9223372036854775807) (torn : Int) :
    Calls Try.prog 5 #[.slice A0 l0.length c0, .slice A1 l1.length c1, .slice A2 l2.length c2, .int .i64 torn] w fun e w' => e = .returned (.bool true) ∧ Below w.heap.size w w' := by
  obtain ⟨t64, ht64, ht0, ht1⟩ := pick_f torn 64 (by decide) (by decide)
  have HC0 := Aside0.mk hr0
  have HC1 := Aside0.mk hr1
  have HC2 := Aside0.mk hr2
  have HW0 := Aside0.mk hw0
  have HW1 := Aside0.mk hw1
  have HCC1 := Aside0.mk hc1
  have HT64 := Aside0.mk ht64
  have HT := Aside0.mk (And.intro ht0 ht1)
  obtain ⟨n0, hn0⟩ : ∃ z, l0.length = z := ⟨_, rfl⟩
  obtain ⟨n1, hn1⟩ : ∃ z, l1.length = z := ⟨_, rfl⟩
  obtain ⟨n2, hn2⟩ : ∃ z, l2.length = z := ⟨_, rfl⟩
  rw [hn0] at HC0 hm0
  rw [hn1] at HC1 hm1 HCC1
  rw [hn2] at HC2 hm2
  rw [hn0, hn1, hn2]
  have HN0 := Aside0.mk hn0
  have HN1 := Aside0.mk hn1
  have HN2 := Aside0.mk hn2
  clear hr0 hr1 hr2 hw0 hw1 hc1 ht64 ht0 ht1 hn0 hn1 hn2
  have HP := Aside0.mk (Hp.start w)
  by_cases q0 : 20 < n0
  · have d0 : decide ((20 : Int) < (n0 : Int)) = true := decide_eq_true (by omega)
    clear q0 hm0 hm1 hm2
    go_enter Try.func5, Try.ntmps5
    go_wp2_with fail
    refine (diskKnown_c _).mono ?_; rintro e wl1 ⟨rfl, hb⟩
    have HPn := Aside0.mk (HP.out.call hb)
    clear HP hb
    have HP := HPn
    clear HPn
    go_wp2_with fail
    refine (c_newD HP.out 4 (by decide) (by decide)).mono ?_; rintro e wl2 ⟨g, rfl, hpn⟩
    clear HP
    have HP := Aside0.mk hpn
    clear hpn
    go_wp2_with fail
    go_ret
    exact ⟨rfl, HP.out.below⟩
  · have d0 : decide ((20 : Int) < (n0 : Int)) = false := decide_eq_false (by omega)
    by_cases q1 : 20 < n1
    · have d1 : decide ((20 : Int) < (n1 : Int)) = true := decide_eq_true (by omega)
      clear q0 q1 hm0 hm1 hm2
      go_enter Try.func5, Try.ntmps5
      go_wp2_with fail
      refine (diskKnown_c _).mono ?_; rintro e wl1 ⟨rfl, hb⟩
      have HPn := Aside0.mk (HP.out.call hb)
      clear HP hb
      have HP := HPn
      clear HPn
      go_wp2_with fail
      refine (c_newD HP.out 4 (by decide) (by decide)).mono ?_; rintro e wl2 ⟨g, rfl, hpn⟩
      clear HP
      have HP := Aside0.mk hpn
      clear hpn
      go_wp2_with fail
      go_ret
      exact ⟨rfl, HP.out.below⟩
    · have d1 : decide ((20 : Int) < (n1 : Int)) = false := decide_eq_false (by omega)
      by_cases q2 : 100 < n2
      · have d2 : decide ((100 : Int) < (n2 : Int)) = true := decide_eq_true (by omega)
        clear q0 q1 q2 hm0 hm1 hm2
        go_enter Try.func5, Try.ntmps5
        go_wp2_with fail
        refine (diskKnown_c _).mono ?_; rintro e wl1 ⟨rfl, hb⟩
        have HPn := Aside0.mk (HP.out.call hb)
        clear HP hb
        have HP := HPn
        clear HPn
        go_wp2_with fail
        refine (c_newD HP.out 4 (by decide) (by decide)).mono ?_; rintro e wl2 ⟨g, rfl, hpn⟩
        clear HP
        have HP := Aside0.mk hpn
        clear hpn
        go_wp2_with fail
        go_ret
        exact ⟨rfl, HP.out.below⟩
      · have d2 : decide ((100 : Int) < (n2 : Int)) = false := decide_eq_false (by omega)
        have HB := Aside0.mk (show n0 ≤ 20 ∧ n1 ≤ 20 ∧ n2 ≤ 100 by omega)
        clear q0 q1 q2 hm0 hm1 hm2
        go_enter Try.func5, Try.ntmps5
        go_wp2_with fail
        refine (diskKnown_c _).mono ?_; rintro e wl1 ⟨rfl, hb⟩
        have HPn := Aside0.mk (HP.out.call hb)
        clear HP hb
        have HP := HPn
        clear HPn
        go_wp2_with fail
        refine (c_newD HP.out 4 (by decide) (by decide)).mono ?_; rintro e wl2 ⟨g, rfl, hpn⟩
        clear HP
        have HP := Aside0.mk hpn
        clear hpn
        go_wp2_with (first | ((with_reducible refine gate_dst (N := 12) rfl ?_); refine ev_alloc rfl 46 rfl (.agg (u8c [0, 0, 0, 0]).toArray) (by kernel_rfl) ?_; intro gw wl3 hge hg hb; have HPn := Aside0.mk (HP.out.newB hb hg hge); clear HP; have HP := HPn; clear HPn; clear hge hg hb))
        clear d0 d1 d2
        have hll : (n0 : Int) ≤ 20 := by have := HB.out; omega
        go_loopg [13] n0 (fun kq v13 w' => ∃ (j : Nat) (x : Int) (S : DS), v13 = .int .i64 x ∧ Aside0 (x = (j : Int)) ∧ Aside0 (kq + j = n0) ∧ Aside0 (St S (fun _ => s64) (firmL (l0.take j))) ∧ Aside0 (Hp w w' [.blk gw (.cells (u8c (wasF (l0.take j))).toArray 46 (0, 0)), rDisk w.heap.size g S]))
        case atStart => exact ⟨0, 0, newS 4, rfl, ⟨rfl⟩, ⟨rfl⟩, ⟨⟨rfl, rfl, rfl, rfl, rfl⟩⟩, HP⟩
        clear HP
        obtain ⟨j, x, S, rfl, HX, HK, HS, HP⟩ := hrel
        have hx := HX.out
        by_cases c1_ : j < n0
        · have d1 : decide (x < (n0 : Int)) = true := decide_eq_true (by omega)
          have ex : IntKind.i64.wrap (x + 1) = x + 1 := IntWalk.i64_in _ (by omega)
          have p0 : 0 ≤ x := by omega
          have q0 : x < (n0 : Int) := by omega
          obtain ⟨c, hc⟩ : ∃ p, l0[j]? = some p := ⟨_, List.getElem?_eq_getElem (by rw [HN0.out]; exact c1_)⟩
          obtain ⟨Ab, Ao, rfl, k0⟩ := cell_int HC0.out hc
          have hlt := cell_lt k0
          have HA := Aside0.mk (fun w' (hb : Below w.heap.size w w') => (show w'.cell? ⟨Ab, Ao + x.toNat, none⟩ = some (.int .u8 c) from (hb.cell (p := ⟨Ab, _, none⟩) (by exact hlt)).trans (by rw [show x.toNat = j by omega]; exact k0)))
          have HAJ := Aside0.mk hc
          have HCB := Aside0.mk (HW0.out c (List.mem_of_getElem? hc))
          obtain ⟨y, hy⟩ : ∃ z, x % 4 = z := ⟨_, rfl⟩
          have r0 : 0 ≤ y := by omega
          have r1 : y < 4 := by omega
          have HY := Aside0.mk (show y = ((j % 4 : Nat) : Int) by omega)
          have HWL := Aside0.mk (wasF_len (l0.take j))
          have HWN := Aside0.mk (show wasF (l0.take (j + 1)) = (wasF (l0.take j)).set y.toNat c by rw [take_snocD l0 j c hc, wasF_snoc, List.length_take, Nat.min_eq_left (by rw [HN0.out]; omega), HY.out, Int.toNat_natCast])
          have HFN := Aside0.mk (show firmL (l0.take (j + 1)) = firmL (l0.take j) ++ [(y, rp c)] by rw [take_snocD l0 j c hc, firmL_snoc, List.length_take, Nat.min_eq_left (by rw [HN0.out]; omega), HY.out])
          obtain ⟨W0, hW0⟩ : ∃ z, wasF (l0.take j) = z := ⟨_, rfl⟩
          rw [hW0] at HP HWL HWN
          have hcw : wr.cell? ⟨gw, y.toNat, none⟩ = some (.int .u8 (rd W0 y)) := cellL (HP.out.blk 0 rfl) y r0 (by rw [HWL.out]; exact r1)
          obtain ⟨cw, hcw2⟩ : ∃ z, rd W0 y = z := ⟨_, rfl⟩
          rw [hcw2] at hcw
          have hfw := frozC (HP.out.blk 0 rfl) y.toNat
          have hca := HA.out _ HP.out.below
          have HPput := Aside0.mk (show Hp w (wr.setCell ⟨gw, y.toNat, none⟩ (.int .u8 c)) [.blk gw (.cells (u8c (W0.set y.toNat c)).toArray 46 (0, 0)), rDisk w.heap.size g S] from by have h := HP.out.setCell 0 rfl y.toNat (.int .u8 c); rw [show (u8c W0).toArray.setIfInBounds y.toNat (.int .u8 c) = (u8c (W0.set y.toNat c)).toArray from setL (k := .u8) _ _ _] at h; exact h)
          have hca2 := HA.out _ HPput.out.below
          clear hx c1_ hc k0 hlt hW0 hcw2 HP
          go_wp2_with fail
          clear hca hca2 hcw hfw
          refine (retconlaw12_of.calls 65 c _ _ (of_f c)).mono ?_; rintro e wo ⟨v_r, rfl, ho, hb⟩
          have HP := Aside0.mk (HPput.out.newR hb ho)
          clear HPput hb ho
          obtain ⟨A_r, c_r, rfl⟩ := Kd.R_slice (HP.out.row 0 rfl)
          have HLS := Aside0.mk (show S.l.length ≤ 1000000 by rw [HS.out.l_]; unfold firmL; rw [List.length_map, List.length_zipIdx, List.length_take]; have := HB.out; have := HN0.out; omega)
          go_wp2_with fail
          have CC := Aside0.mk (c_write HP.out 2 g S rfl y A_r c_r (rp c) (by simp) (Rd.row 0 (by decide) rfl) HLS.out)
          rw [(HS.out.write r0 r1 c).1] at CC
          refine CC.out.mono ?_; rintro e wv ⟨rfl, hpn⟩
          clear CC HP
          have HP := Aside0.mk hpn
          clear hpn
          go_wp2_with fail
          have HPn := HP.out.drop1
          go_roundg (gk - 1)
          case measure => have := HK.out; have := (List.getElem?_eq_some_iff.1 HAJ.out).1; have := HN0.out; omega
          case rel => exact ⟨j + 1, x + 1, writeS S y (rp c), rfl, ⟨by have := HX.out; omega⟩, ⟨by have := HK.out; have := (List.getElem?_eq_some_iff.1 HAJ.out).1; have := HN0.out; omega⟩, ⟨by rw [HFN.out]; exact (HS.out.write r0 r1 c).2⟩, ⟨by rw [HWN.out]; exact HPn⟩⟩
        · have d1 : decide (x < (n0 : Int)) = false := decide_eq_false (by omega)
          rw [List.take_of_length_le (by have := HN0.out; omega)] at HP HS
          have HF := Aside0.mk HS.out.flush
          clear hx c1_ hll
          go_wp2_with fail
          have CC := Aside0.mk (c_flush HP.out 1 g S rfl (by rw [HS.out.l_]; unfold firmL; rw [List.length_map, List.length_zipIdx]; have := HB.out; have := HN0.out; omega))
          rw [HF.out.1] at CC
          refine CC.out.mono ?_; rintro e wf ⟨rfl, hpn⟩
          clear CC HP
          have HP := Aside0.mk hpn
          clear hpn
          have HS2 := Aside0.mk HF.out.2
          obtain ⟨S2, hS2⟩ : ∃ z, flushS S = z := ⟨_, rfl⟩
          rw [hS2] at HS2
          rw [show Hp w wf _ = Hp w wf [.blk gw (.cells (u8c (wasF l0)).toArray 46 (0, 0)), rDisk w.heap.size g S2] from by rw [← hS2]; rfl] at HP
          have HWB := Aside0.mk (wasF_byte l0 HW0.out)
          have HUN := Aside0.mk (show ∀ n, 0 ≤ n → n < 4 → Unif (fun n => (wasF l0).getD n.toNat 0) l1 n (putF (fun _ => s64) (firmL l0) n) from fun n h0 h1 => ⟨_, .inl rfl, by
            obtain ⟨k, rfl⟩ : ∃ k : Nat, n = (k : Int) := ⟨n.toNat, by omega⟩
            rw [putF_firm l0 k (by omega)]
            simp only [Int.toNat_natCast]⟩)
          obtain ⟨F, hF⟩ : ∃ z, putF (fun _ => s64) (firmL l0) = z := ⟨_, rfl⟩
          rw [hF] at HS2 HUN
          have HWL := Aside0.mk (wasF_len l0)
          obtain ⟨W0, hW0⟩ : ∃ z, wasF l0 = z := ⟨_, rfl⟩
          rw [hW0] at HP HUN HWL HWB
          clear HF HS hS2 hF hW0
          go_wp2_with fail
          have hll : (n1 : Int) ≤ 20 := by have := HB.out; omega
          go_loopg [14] n1 (fun kq v14 w' => ∃ (j : Nat) (x : Int) (S : DS), v14 = .int .i64 x ∧ Aside0 (x = (j : Int)) ∧ Aside0 (kq + j = n1) ∧ Aside0 (St S F (softL (l1.take j))) ∧ Aside0 (Hp w w' [.blk gw (.cells (u8c W0).toArray 46 (0, 0)), rDisk w.heap.size g S]))
          case atStart => exact ⟨0, 0, S2, rfl, ⟨rfl⟩, ⟨rfl⟩, HS2, HP⟩
          clear HP HS2
          obtain ⟨j, x, S, rfl, HX, HK, HS, HP⟩ := hrel
          have hx := HX.out
          by_cases c1_ : j < n1
          · have d1 : decide (x < (n1 : Int)) = true := decide_eq_true (by omega)
            have ex : IntKind.i64.wrap (x + 1) = x + 1 := IntWalk.i64_in _ (by omega)
            have p0 : 0 ≤ x := by omega
            have q0 : x < (n1 : Int) := by omega
            obtain ⟨c, hc⟩ : ∃ p, l1[j]? = some p := ⟨_, List.getElem?_eq_getElem (by rw [HN1.out]; exact c1_)⟩
            obtain ⟨Ab, Ao, rfl, k0⟩ := cell_int HC1.out hc
            have hlt := cell_lt k0
            have HA := Aside0.mk (fun w' (hb : Below w.heap.size w w') => (show w'.cell? ⟨Ab, Ao + x.toNat, none⟩ = some (.int .u8 c) from (hb.cell (p := ⟨Ab, _, none⟩) (by exact hlt)).trans (by rw [show x.toNat = j by omega]; exact k0)))
            have HAJ := Aside0.mk hc
            obtain ⟨b0, b1⟩ := HW1.out c (List.mem_of_getElem? hc)
            obtain ⟨y, hy⟩ : ∃ z, c % 4 = z := ⟨_, rfl⟩
            have r0 : 0 ≤ y := by omega
            have r1 : y < 4 := by omega
            have HSN := Aside0.mk (show softL (l1.take (j + 1)) = softL (l1.take j) ++ [(y, rp c)] by rw [take_snocD l1 j c hc, softL_snoc, hy])
            have HLS := Aside0.mk (show S.l.length ≤ 1000000 by rw [HS.out.l_]; unfold softL; rw [List.length_map, List.length_take]; have := HB.out; have := HN1.out; omega)
            have ewc : IntKind.i64.wrap c = c := IntWalk.i64_in _ (by omega)
            have etm : Int.tmod c 4 = y := by rw [Int.tmod_eq_emod_of_nonneg b0]; exact hy
            clear hx c1_ hc k0 hlt
            go_wp2_with fail
            refine held_named (S := (fun w' => w'.cell? ⟨Ab, Ao + x.toNat, none⟩ = some (.int .u8 c))) (by kernel_rfl) (fun wd17 hwd17 => ?_)
            have HPn := Aside0.mk (HP.out.drewN 1)
            rw [← World.drew_is_drewN, hwd17] at HPn
            clear HP hwd17
            have HP := HPn
            clear HPn
            refine ⟨by (try dsimp only); exact HA.out _ HP.out.below, fun hHeld => ?_⟩
            refine wpAnyH_take (i := 0) (oi := ({ dst := (some 86), op := (Op.move (Operand.tmp 10)), type := 22, pos := "outright.go:111", after := #[], guard := none } : Oper)) (v := ?_) rfl (by kernel_rfl) (by kernel_rfl) (by kernel_rfl) (fun _ _ _ h => h) (Or.inl ⟨by rfl, ?_⟩) hHeld ?_
            rotate_left
            · intro w_ hSw; (try dsimp only at hSw); go_simp; try (with_reducible rfl)
            try simp only [Act.put, List.setIfInBounds_toArray, List.set_cons_zero, List.set_cons_succ]
            refine wpAnyH_take (i := 1) (oi := ({ dst := (some 87), op := (Op.move (Operand.tmp 1)), type := 27, pos := "outright.go:111", after := #[], guard := none } : Oper)) (v := ?_) rfl (by kernel_rfl) (by kernel_rfl) (by kernel_rfl) (fun _ _ _ h => h) (Or.inl ⟨by rfl, ?_⟩) hHeld ?_
            rotate_left
            · intro w_ hSw; (try dsimp only at hSw); go_simp; try (with_reducible rfl)
            try simp only [Act.put, List.setIfInBounds_toArray, List.set_cons_zero, List.set_cons_succ]
            refine wpAnyH_take (i := 2) (oi := ({ dst := (some 88), op := (Op.move (Operand.tmp 14)), type := 3, pos := "outright.go:111", after := #[], guard := none } : Oper)) (v := ?_) rfl (by kernel_rfl) (by kernel_rfl) (by kernel_rfl) (fun _ _ _ h => h) (Or.inl ⟨by rfl, ?_⟩) hHeld ?_
            rotate_left
            · intro w_ hSw; (try dsimp only at hSw); go_simp; try (with_reducible rfl)
            try simp only [Act.put, List.setIfInBounds_toArray, List.set_cons_zero, List.set_cons_succ]
            refine wpAnyH_take (i := 3) (oi := ({ dst := (some 89), op := (Op.indexAddr 27 (Operand.tmp 87) (Operand.tmp 88)), type := 0, pos := "outright.go:111", after := #[{ on := 1, ground := Ground.data }, { on := 2, ground := Ground.data }], guard := none } : Oper)) (v := ?_) rfl (by kernel_rfl) (by kernel_rfl) (by kernel_rfl) (fun _ _ _ h => h) (Or.inl ⟨by rfl, ?_⟩) hHeld ?_
            rotate_left
            · intro w_ hSw; (try dsimp only at hSw); go_simp; try (with_reducible rfl)
            try simp only [Act.put, List.setIfInBounds_toArray, List.set_cons_zero, List.set_cons_succ]
            refine wpAnyH_take (i := 4) (oi := ({ dst := (some 90), op := (Op.load 5 (Operand.tmp 89)), type := 5, pos := "outright.go:111", after := #[{ on := 3, ground := Ground.data }], guard := none } : Oper)) (v := ?_) rfl (by kernel_rfl) (by kernel_rfl) (by kernel_rfl) (fun _ _ _ h => h) (Or.inl ⟨by rfl, ?_⟩) hHeld ?_
            rotate_left
            · intro w_ hSw; (try dsimp only at hSw); go_simp; try (with_reducible rfl)
            try simp only [Act.put, List.setIfInBounds_toArray, List.set_cons_zero, List.set_cons_succ]
            refine wpAnyH_take (i := 5) (oi := ({ dst := (some 91), op := (Op.convert 5 3 (Operand.tmp 90)), type := 3, pos := "outright.go:111", after := #[{ on := 4, ground := Ground.data }], guard := none } : Oper)) (v := ?_) rfl (by kernel_rfl) (by kernel_rfl) (by kernel_rfl) (fun _ _ _ h => h) (Or.inl ⟨by rfl, ?_⟩) hHeld ?_
            rotate_left
            · intro w_ hSw; (try dsimp only at hSw); go_simp; try (with_reducible rfl)
            try simp only [Act.put, List.setIfInBounds_toArray, List.set_cons_zero, List.set_cons_succ]
            refine wpAnyH_take (i := 6) (oi := ({ dst := (some 92), op := (Op.binOp BinOp.rem 3 (Operand.tmp 91) (Operand.const (Value.int IntKind.i64 4)) 3), type := 3, pos := "outright.go:111", after := #[{ on := 5, ground := Ground.data }], guard := none } : Oper)) (v := ?_) rfl (by kernel_rfl) (by kernel_rfl) (by kernel_rfl) (fun _ _ _ h => h) (Or.inl ⟨by rfl, ?_⟩) hHeld ?_
            rotate_left
            · intro w_ hSw; (try dsimp only at hSw); go_simp; try (with_reducible rfl)
            try simp only [Act.put, List.setIfInBounds_toArray, List.set_cons_zero, List.set_cons_succ]
            refine wpAnyH_take (i := 7) (oi := ({ dst := (some 93), op := (Op.move (Operand.tmp 1)), type := 27, pos := "outright.go:111", after := #[], guard := none } : Oper)) (v := ?_) rfl (by kernel_rfl) (by kernel_rfl) (by kernel_rfl) (fun _ _ _ h => h) (Or.inl ⟨by rfl, ?_⟩) hHeld ?_
            rotate_left
            · intro w_ hSw; (try dsimp only at hSw); go_simp; try (with_reducible rfl)
            try simp only [Act.put, List.setIfInBounds_toArray, List.set_cons_zero, List.set_cons_succ]
            refine wpAnyH_take (i := 8) (oi := ({ dst := (some 94), op := (Op.move (Operand.tmp 14)), type := 3, pos := "outright.go:111", after := #[], guard := none } : Oper)) (v := ?_) rfl (by kernel_rfl) (by kernel_rfl) (by kernel_rfl) (fun _ _ _ h => h) (Or.inl ⟨by rfl, ?_⟩) hHeld ?_
            rotate_left
            · intro w_ hSw; (try dsimp only at hSw); go_simp; try (with_reducible rfl)
            try simp only [Act.put, List.setIfInBounds_toArray, List.set_cons_zero, List.set_cons_succ]
            refine wpAnyH_take (i := 9) (oi := ({ dst := (some 95), op := (Op.indexAddr 27 (Operand.tmp 93) (Operand.tmp 94)), type := 0, pos := "outright.go:111", after := #[{ on := 7, ground := Ground.data }, { on := 8, ground := Ground.data }], guard := none } : Oper)) (v := ?_) rfl (by kernel_rfl) (by kernel_rfl) (by kernel_rfl) (fun _ _ _ h => h) (Or.inl ⟨by rfl, ?_⟩) hHeld ?_
            rotate_left
            · intro w_ hSw; (try dsimp only at hSw); go_simp; try (with_reducible rfl)
            try simp only [Act.put, List.setIfInBounds_toArray, List.set_cons_zero, List.set_cons_succ]
            refine wpAnyH_take (i := 10) (oi := ({ dst := (some 96), op := (Op.load 5 (Operand.tmp 95)), type := 5, pos := "outright.go:111", after := #[{ on := 9, ground := Ground.data }], guard := none } : Oper)) (v := ?_) rfl (by kernel_rfl) (by kernel_rfl) (by kernel_rfl) (fun _ _ _ h => h) (Or.inl ⟨by rfl, ?_⟩) hHeld ?_
            rotate_left
            · intro w_ hSw; (try dsimp only at hSw); go_simp; try (with_reducible rfl)
            try simp only [Act.put, List.setIfInBounds_toArray, List.set_cons_zero, List.set_cons_succ]
            refine wpAnyH_ready (rs := [11]) (by kernel_rfl) (by simp) ?_
            refine AllReadyH.cons (o := ({ dst := (some 97), op := (Op.call { callee := (Callee.value (Operand.func 10)), args := #[(Operand.tmp 96)], argTypes := #[5] }), type := 27, pos := "outright.go:111", after := #[{ on := 10, ground := Ground.data }], guard := none } : Oper)) rfl (fun K hK => ?_) AllReadyH.nil
            go_simp
            refine (retconlaw12_of.calls 65 c _ _ (of_f c)).mono ?_; rintro e wo ⟨v_r, rfl, ho, hb⟩; have HPn := Aside0.mk (HP.out.newR hb ho); clear HP hb ho; have HP := HPn; clear HPn; obtain ⟨A_r, c_r, rfl⟩ := Kd.R_slice (HP.out.row 0 rfl)
            go_wp2_with fail
            clear hHeld
            refine hK.out _ _ ?_ (fun hHeld => ?_)
            · (try dsimp only); exact HA.out _ HP.out.below
            clear hK K
            try simp only [Act.put, List.setIfInBounds_toArray, List.set_cons_zero, List.set_cons_succ]
            refine wpAnyH_ready (rs := [12]) (by kernel_rfl) (by simp) ?_
            refine AllReadyH.cons (o := ({ dst := (some 98), op := (Op.call { callee := (Callee.value (Operand.func 11)), args := #[(Operand.tmp 86), (Operand.tmp 92), (Operand.tmp 97)], argTypes := #[22, 3, 27] }), type := 24, pos := "outright.go:111", after := #[{ on := 0, ground := Ground.data }, { on := 6, ground := Ground.data }, { on := 11, ground := Ground.data }, { on := 11, ground := Ground.chain }], guard := none } : Oper)) rfl (fun K hK => ?_) AllReadyH.nil
            go_simp
            have CC := Aside0.mk (c_write HP.out 2 g S rfl y A_r c_r (rp c) (by simp) (Rd.row 0 (by decide) rfl) HLS.out); rw [(HS.out.write r0 r1 c).1] at CC; refine CC.out.mono ?_; rintro e wv ⟨rfl, hpn⟩; clear CC HP; have HP := Aside0.mk hpn; clear hpn
            go_wp2_with fail
            clear hHeld
            refine hK.out _ _ ?_ (fun hHeld => ?_)
            · (try dsimp only); exact HA.out _ HP.out.below
            clear hK K
            try simp only [Act.put, List.setIfInBounds_toArray, List.set_cons_zero, List.set_cons_succ]
            refine wpAnyH_take (i := 13) (oi := ({ dst := (some 99), op := (Op.binOp BinOp.neq 24 (Operand.tmp 98) (Operand.const (Value.int IntKind.i64 0)) 24), type := 4, pos := "outright.go:111", after := #[{ on := 12, ground := Ground.data }], guard := none } : Oper)) (v := ?_) rfl (by kernel_rfl) (by kernel_rfl) (by kernel_rfl) (fun _ _ _ h => h) (Or.inl ⟨by rfl, ?_⟩) hHeld ?_
            rotate_left
            · intro w_ hSw; (try dsimp only at hSw); go_simp; try (with_reducible rfl)
            try simp only [Act.put, List.setIfInBounds_toArray, List.set_cons_zero, List.set_cons_succ]
            refine wpAnyH_done (by kernel_rfl) ?_ _
            go_wp2_with fail
            have HPn := HP.out.drop1
            go_roundg (gk - 1)
            case measure => have := HK.out; have := (List.getElem?_eq_some_iff.1 HAJ.out).1; have := HN1.out; omega
            case rel => exact ⟨j + 1, x + 1, writeS S y (rp c), rfl, ⟨by have := HX.out; omega⟩, ⟨by have := HK.out; have := (List.getElem?_eq_some_iff.1 HAJ.out).1; have := HN1.out; omega⟩, ⟨by rw [HSN.out]; exact (HS.out.write r0 r1 c).2⟩, ⟨HPn⟩⟩
          · have d1 : decide (x < (n1 : Int)) = false := decide_eq_false (by omega)
            rw [List.take_of_length_le (by have := HN1.out; omega)] at HS
            have HSL := Aside0.mk (show S.l.length = n1 by rw [HS.out.l_]; unfold softL; rw [List.length_map]; exact HN1.out)
            clear hx c1_ hll
            go_wp2_with fail
            have CC := Aside0.mk (c_looseD HP.out 1 g S rfl)
            rw [HSL.out] at CC
            refine CC.out.mono ?_; rintro e wlo ⟨rfl, rfl⟩
            clear CC
            go_wp2_with fail
            refine (retconkit_Pick.calls torn 64 t64 _ HT64.out).mono ?_; rintro e w_ ⟨rfl, p_, rfl⟩
            have HPn := Aside0.mk (HP.out.drewN p_)
            clear HP
            have HP := HPn
            clear HPn
            obtain ⟨wpk, hwq⟩ : ∃ z, wlo.drewN p_ = z := ⟨_, rfl⟩
            rw [hwq] at HP
            rw [hwq]
            clear hwq
            go_wp2_with fail
            have CC := Aside0.mk (c_crash HP.out 1 g S rfl A2 c2 l2 (by have := HN2.out; have := HB.out; omega) (Rd.below (by rw [HN2.out]; exact HC2.out)) t64 HT.out (by rw [HSL.out]; have := HB.out; omega))
            rw [HN2.out] at CC
            refine CC.out.mono ?_; rintro e wc ⟨rfl, hpn⟩
            clear CC HP
            obtain ⟨S3, hS3⟩ : ∃ z, ({ S with fuse := -1, out := false, at' := crashG l2 S.l 0 t64 S.at', l := [] } : DS) = z := ⟨_, rfl⟩
            rw [hS3] at hpn
            have HP := Aside0.mk (show Hp w wc [.blk gw (.cells (u8c W0).toArray 46 (0, 0)), rDisk w.heap.size g S3] from hpn)
            have H3 := Aside0.mk (show St S3 (crashG l2 (softL l1) 0 t64 F) [] from ⟨by rw [← hS3], by rw [← hS3], by rw [← hS3]; exact HS.out.many, by rw [← hS3]; show crashG l2 S.l 0 t64 S.at' = _; rw [HS.out.l_, HS.out.at_], by rw [← hS3]⟩)
            obtain ⟨m, hm⟩ := crash1 l2 t64 HT.out l1 0 F (fun c hc => hc) HUN.out
            have HPH := Aside0.mk hm
            clear hpn hS3 hm HS HSL
            obtain ⟨C, hC⟩ : ∃ z, crashG l2 (softL l1) 0 t64 F = z := ⟨_, rfl⟩
            rw [hC] at H3 HPH
            clear hC
            go_wp2_with fail
            go_loopg [15, 16] 4 (fun kq v15 v16 w' => ∃ (j : Nat) (x odd : Int), v15 = .int .i64 odd ∧ v16 = .int .i64 x ∧ Aside0 (x = (j : Int)) ∧ Aside0 (kq + j = 4) ∧ Aside0 (0 ≤ odd ∧ odd ≤ 1 ∧ (odd = 1 → m < x)) ∧ Aside0 (Hp w w' [.blk gw (.cells (u8c W0).toArray 46 (0, 0)), rDisk w.heap.size g S3]))
            case atStart => exact ⟨0, 0, 0, rfl, rfl, ⟨rfl⟩, ⟨rfl⟩, ⟨by decide, by decide, fun h => by cases h⟩, HP⟩
            clear HP
            obtain ⟨j, x, odd, rfl, rfl, HX, HK, HO, HP⟩ := hrel
            have hx := HX.out
            by_cases c1_ : j < 4
            · have d1 : decide (x < 4) = true := decide_eq_true (by omega)
              have ex : IntKind.i64.wrap (x + 1) = x + 1 := IntWalk.i64_in _ (by omega)
              have p0 : 0 ≤ x := by omega
              have q0 : x < 4 := by omega
              have HRE := Aside0.mk (H3.out.ready p0 q0)
              have hph := HPH.out x p0 q0
              have hcx : putF S3.at' S3.l x = C x := by rw [H3.out.l_, H3.out.at_]; rfl
              obtain ⟨b, hb⟩ : ∃ z, C x = z := ⟨_, rfl⟩
              rw [hb] at hph hcx
              have hge := good_ends hph.1
              have hby := good_byte hph.1 HWB.out HW1.out
              obtain ⟨kA, hkA⟩ := among_f (fun n => W0.getD n.toNat 0) (b.getD 0 0) x l1 (by have := HN1.out; have := HB.out; omega) ⟨hby.2.2.1, hby.2.2.2⟩ hge.2.1
              obtain ⟨kB, hkB⟩ := among_f (fun n => W0.getD n.toNat 0) (b.getD 63 0) x l1 (by have := HN1.out; have := HB.out; omega) ⟨hby.1, hby.2.1⟩ hge.2.2
              obtain ⟨r, hr⟩ : ∃ r, retconkit_SameBytes.f b (rp (b.getD 63 0)) = some r := ⟨_, rfl⟩
              have HRM := Aside0.mk (show x ≠ m → r = true from fun hne => by
                have h1 := unif_last (hph.2 hne)
                rw [← h1, same_f] at hr
                injection hr with hr
                exact hr.symm)
              have HSB := Aside0.mk hr
              have HGE := Aside0.mk hge
              have HCX := Aside0.mk hcx
              have HC63 := Aside0.mk (show b[63]? = some (b.getD 63 0) by rw [List.getD_eq_getElem?_getD, List.getElem?_eq_getElem (by rw [hge.1]; decide)]; rfl)
              have HC00 := Aside0.mk (show b[0]? = some (b.getD 0 0) by rw [List.getD_eq_getElem?_getD, List.getElem?_eq_getElem (by rw [hge.1]; decide)]; rfl)
              obtain ⟨b63, h63⟩ : ∃ z, b.getD 63 0 = z := ⟨_, rfl⟩
              obtain ⟨b00, h00⟩ : ∃ z, b.getD 0 0 = z := ⟨_, rfl⟩
              rw [h63] at HC63 HSB hkB
              rw [h00] at HC00 hkA
              obtain ⟨wn, hwn⟩ : ∃ z, W0.getD x.toNat 0 = z := ⟨_, rfl⟩
              simp only [hwn] at hkA hkB
              have HKA := Aside0.mk hkA
              have HKB := Aside0.mk hkB
              have HWN := Aside0.mk (fun (w' : World) (h : w'.heap[gw]? = some (.cells (u8c W0).toArray 46 (0, 0))) => show w'.cell? ⟨gw, x.toNat, none⟩ = some (.int .u8 wn) by rw [cell_of_row w' gw _ _ _ _ h]; have h4 := HWL.out; rw [← hwn, List.getD_eq_getElem?_getD]; simp [u8c, show x.toNat < W0.length by omega])
              have HH63 := Aside0.mk (fun (w' : World) (gr : Nat) (t : TypeId) (h : w'.heap[gr]? = some (.cells (u8c b).toArray t (0, 0))) => show w'.cell? ⟨gr, 63, none⟩ = some (.int .u8 b63) by rw [cell_of_row w' gr _ _ _ _ h]; simp [u8c, HC63.out])
              have HH00 := Aside0.mk (fun (w' : World) (gr : Nat) (t : TypeId) (h : w'.heap[gr]? = some (.cells (u8c b).toArray t (0, 0))) => show w'.cell? ⟨gr, 0, none⟩ = some (.int .u8 b00) by rw [cell_of_row w' gr _ _ _ _ h]; simp [u8c, HC00.out])
              clear hx c1_ hph hcx hb hge hby hkA hkB hr h63 h00 hwn
              go_wp2_with fail
              refine (c_read HP.out 1 g S3 rfl x (by rw [H3.out.l_]; decide) HRE.out).mono ?_; rintro e wrd ⟨gr, rfl, hlen, hpn⟩
              clear HP
              rw [HCX.out] at hpn
              have HP := Aside0.mk hpn
              clear hpn hlen
              have h63 := HH63.out _ _ _ (HP.out.blk 0 rfl)
              go_wp2_with fail
              clear h63
              refine (retconlaw12_of.calls 65 b63 _ _ (of_f b63)).mono ?_; rintro e wo ⟨v_r, rfl, ho, hb⟩
              have HPn := Aside0.mk (HP.out.newR hb ho)
              clear HP hb ho
              have HP := HPn
              clear HPn
              obtain ⟨A_r, c_r, rfl⟩ := Kd.R_slice (HP.out.row 0 rfl)
              go_wp2_with fail
              have CC := Aside0.mk (retconkit_SameBytes.calls (some ⟨gr, 0, none⟩) 64 b A_r c_r (rp b63) r wo (by have h := C_blk64 (HP.out.blk 1 rfl) HGE.out.1; rw [← HGE.out.1] at h; exact h) (by rw [HGE.out.1]; exact Nat.le_refl _) (Kd.R_reads' (HP.out.row 0 rfl)).2.2 (Kd.R_reads' (HP.out.row 0 rfl)).2.1 HSB.out)
              rw [HGE.out.1] at CC
              refine (CC.out).mono ?_; rintro e w_ ⟨rfl, p_, rfl⟩
              have HPn := Aside0.mk (HP.out.drewN p_)
              clear HP
              have HP := HPn
              clear HPn
              obtain ⟨ws, hwq⟩ : ∃ z, wo.drewN p_ = z := ⟨_, rfl⟩
              rw [hwq] at HP
              rw [hwq]
              clear hwq
              clear CC
              cases r with
              | true =>
                go_wp2_with fail
                refine held_named (S := (fun w' => w'.cell? ⟨gr, 0, none⟩ = some (.int .u8 b00) ∧ w'.cell? ⟨gr, 63, none⟩ = some (.int .u8 b63) ∧ w'.cell? ⟨gw, x.toNat, none⟩ = some (.int .u8 wn))) (by kernel_rfl) (fun wd30 hwd30 => ?_)
                have HPn := Aside0.mk (HP.out.drewN 1)
                rw [← World.drew_is_drewN, hwd30] at HPn
                clear HP hwd30
                have HP := HPn
                clear HPn
                refine ⟨by (try dsimp only); exact ⟨HH00.out _ _ _ (HP.out.blk 1 rfl), HH63.out _ _ _ (HP.out.blk 1 rfl), HWN.out _ (HP.out.blk 2 rfl)⟩, fun hHeld => ?_⟩
                refine wpAnyH_take (i := 0) (oi := ({ dst := (some 139), op := (Op.move (Operand.tmp 17)), type := 27, pos := "outright.go:127", after := #[], guard := none } : Oper)) (v := ?_) rfl (by kernel_rfl) (by kernel_rfl) (by kernel_rfl) (fun _ _ _ h => h) (Or.inl ⟨by rfl, ?_⟩) hHeld ?_
                rotate_left
                · intro w_ hSw; (try dsimp only at hSw); go_simp; try (with_reducible rfl)
                try simp only [Act.put, List.setIfInBounds_toArray, List.set_cons_zero, List.set_cons_succ]
                refine wpAnyH_take (i := 1) (oi := ({ dst := (some 140), op := (Op.indexAddr 27 (Operand.tmp 139) (Operand.const (Value.int IntKind.i64 0))), type := 0, pos := "outright.go:127", after := #[{ on := 0, ground := Ground.data }], guard := none } : Oper)) (v := ?_) rfl (by kernel_rfl) (by kernel_rfl) (by kernel_rfl) (fun _ _ _ h => h) (Or.inl ⟨by rfl, ?_⟩) hHeld ?_
                rotate_left
                · intro w_ hSw; (try dsimp only at hSw); go_simp; try (with_reducible rfl)
                try simp only [Act.put, List.setIfInBounds_toArray, List.set_cons_zero, List.set_cons_succ]
                refine wpAnyH_take (i := 2) (oi := ({ dst := (some 141), op := (Op.load 5 (Operand.tmp 140)), type := 5, pos := "outright.go:127", after := #[{ on := 1, ground := Ground.data }], guard := none } : Oper)) (v := ?_) rfl (by kernel_rfl) (by kernel_rfl) (by kernel_rfl) (fun _ _ _ h => h) (Or.inl ⟨by rfl, ?_⟩) hHeld ?_
                rotate_left
                · intro w_ hSw; (try dsimp only at hSw); go_simp; try (with_reducible rfl)
                try simp only [Act.put, List.setIfInBounds_toArray, List.set_cons_zero, List.set_cons_succ]
                refine wpAnyH_take (i := 3) (oi := ({ dst := (some 142), op := (Op.move (Operand.tmp 16)), type := 3, pos := "outright.go:127", after := #[], guard := none } : Oper)) (v := ?_) rfl (by kernel_rfl) (by kernel_rfl) (by kernel_rfl) (fun _ _ _ h => h) (Or.inl ⟨by rfl, ?_⟩) hHeld ?_
                rotate_left
                · intro w_ hSw; (try dsimp only at hSw); go_simp; try (with_reducible rfl)
                try simp only [Act.put, List.setIfInBounds_toArray, List.set_cons_zero, List.set_cons_succ]
                refine wpAnyH_take (i := 4) (oi := ({ dst := (some 143), op := (Op.indexAddr 46 (Operand.tmp 12) (Operand.tmp 142)), type := 0, pos := "outright.go:127", after := #[{ on := 3, ground := Ground.data }], guard := none } : Oper)) (v := ?_) rfl (by kernel_rfl) (by kernel_rfl) (by kernel_rfl) (fun _ _ _ h => h) (Or.inl ⟨by rfl, ?_⟩) hHeld ?_
                rotate_left
                · intro w_ hSw; (try dsimp only at hSw); go_simp; try (with_reducible rfl)
                try simp only [Act.put, List.setIfInBounds_toArray, List.set_cons_zero, List.set_cons_succ]
                refine wpAnyH_take (i := 5) (oi := ({ dst := (some 144), op := (Op.load 5 (Operand.tmp 143)), type := 5, pos := "outright.go:127", after := #[{ on := 4, ground := Ground.data }], guard := none } : Oper)) (v := ?_) rfl (by kernel_rfl) (by kernel_rfl) (by kernel_rfl) (fun _ _ _ h => h) (Or.inl ⟨by rfl, ?_⟩) hHeld ?_
                rotate_left
                · intro w_ hSw; (try dsimp only at hSw); go_simp; try (with_reducible rfl)
                try simp only [Act.put, List.setIfInBounds_toArray, List.set_cons_zero, List.set_cons_succ]
                refine wpAnyH_take (i := 6) (oi := ({ dst := (some 145), op := (Op.move (Operand.tmp 1)), type := 27, pos := "outright.go:127", after := #[], guard := none } : Oper)) (v := ?_) rfl (by kernel_rfl) (by kernel_rfl) (by kernel_rfl) (fun _ _ _ h => h) (Or.inl ⟨by rfl, ?_⟩) hHeld ?_
                rotate_left
                · intro w_ hSw; (try dsimp only at hSw); go_simp; try (with_reducible rfl)
                try simp only [Act.put, List.setIfInBounds_toArray, List.set_cons_zero, List.set_cons_succ]
                refine wpAnyH_take (i := 7) (oi := ({ dst := (some 146), op := (Op.move (Operand.tmp 16)), type := 3, pos := "outright.go:127", after := #[], guard := none } : Oper)) (v := ?_) rfl (by kernel_rfl) (by kernel_rfl) (by kernel_rfl) (fun _ _ _ h => h) (Or.inl ⟨by rfl, ?_⟩) hHeld ?_
                rotate_left
                · intro w_ hSw; (try dsimp only at hSw); go_simp; try (with_reducible rfl)
                try simp only [Act.put, List.setIfInBounds_toArray, List.set_cons_zero, List.set_cons_succ]
                refine wpAnyH_ready (rs := [8]) (by kernel_rfl) (by simp) ?_
                refine AllReadyH.cons (o := ({ dst := (some 147), op := (Op.call { callee := (Callee.value (Operand.func 24)), args := #[(Operand.tmp 141), (Operand.tmp 144), (Operand.tmp 145), (Operand.tmp 146)], argTypes := #[5, 5, 27, 3] }), type := 4, pos := "outright.go:127", after := #[{ on := 2, ground := Ground.data }, { on := 5, ground := Ground.data }, { on := 6, ground := Ground.data }, { on := 7, ground := Ground.data }], guard := none } : Oper)) rfl (fun K hK => ?_) AllReadyH.nil
                go_simp
                have CC := Aside0.mk (retconlaw12_among.calls kA b00 wn A1 c1 l1 x true _ (by rw [HN1.out]; exact Kd.C_below HC1.out HP.out.below) (by rw [HN1.out]; exact HCC1.out) HKA.out); rw [HN1.out] at CC; refine CC.out.mono ?_; rintro e w_ ⟨rfl, n1_, rfl⟩; clear CC; have HPn := Aside0.mk (HP.out.drewN n1_); clear HP; have HP := HPn; clear HPn; (try simp only [World.drewN_drewN] at HP)
                go_wp2_with fail
                clear hHeld
                refine hK.out _ _ ?_ (fun hHeld => ?_)
                · (try dsimp only); exact ⟨HH00.out _ _ _ (HP.out.blk 1 rfl), HH63.out _ _ _ (HP.out.blk 1 rfl), HWN.out _ (HP.out.blk 2 rfl)⟩
                clear hK K
                try simp only [Act.put, List.setIfInBounds_toArray, List.set_cons_zero, List.set_cons_succ]
                refine wpAnyH_take (i := 9) (oi := ({ dst := (some 148), op := (Op.unOp UnOp.not 4 (Operand.tmp 147)), type := 4, pos := "outright.go:127", after := #[{ on := 8, ground := Ground.data }], guard := none } : Oper)) (v := ?_) rfl (by kernel_rfl) (by kernel_rfl) (by kernel_rfl) (fun _ _ _ h => h) (Or.inl ⟨by rfl, ?_⟩) hHeld ?_
                rotate_left
                · intro w_ hSw; (try dsimp only at hSw); go_simp; try (with_reducible rfl)
                try simp only [Act.put, List.setIfInBounds_toArray, List.set_cons_zero, List.set_cons_succ]
                refine wpAnyH_take (i := 10) (oi := ({ dst := (some 149), op := (Op.move (Operand.tmp 148)), type := 4, pos := "outright.go:127", after := #[{ on := 9, ground := Ground.data }, { on := 8, ground := Ground.chain }], guard := none } : Oper)) (v := ?_) rfl (by kernel_rfl) (by kernel_rfl) (by kernel_rfl) (fun _ _ _ h => h) (Or.inl ⟨by rfl, ?_⟩) hHeld ?_
                rotate_left
                · intro w_ hSw; (try dsimp only at hSw); go_simp; try (with_reducible rfl)
                try simp only [Act.put, List.setIfInBounds_toArray, List.set_cons_zero, List.set_cons_succ]
                refine wpAnyH_take (i := 11) (oi := ({ dst := (some 150), op := (Op.move (Operand.tmp 17)), type := 27, pos := "outright.go:127", after := #[{ on := 10, ground := Ground.guard }], guard := (some (10, false)) } : Oper)) (v := ?_) rfl (by kernel_rfl) (by kernel_rfl) (by kernel_rfl) (fun _ _ _ h => h) (Or.inl ⟨by rfl, ?_⟩) hHeld ?_
                rotate_left
                · intro w_ hSw; (try dsimp only at hSw); go_simp; try (with_reducible rfl)
                try simp only [Act.put, List.setIfInBounds_toArray, List.set_cons_zero, List.set_cons_succ]
                refine wpAnyH_take (i := 12) (oi := ({ dst := (some 151), op := (Op.indexAddr 27 (Operand.tmp 150) (Operand.const (Value.int IntKind.i64 63))), type := 0, pos := "outright.go:127", after := #[{ on := 11, ground := Ground.data }, { on := 10, ground := Ground.guard }], guard := (some (10, false)) } : Oper)) (v := ?_) rfl (by kernel_rfl) (by kernel_rfl) (by kernel_rfl) (fun _ _ _ h => h) (Or.inl ⟨by rfl, ?_⟩) hHeld ?_
                rotate_left
                · intro w_ hSw; (try dsimp only at hSw); go_simp; try (with_reducible rfl)
                try simp only [Act.put, List.setIfInBounds_toArray, List.set_cons_zero, List.set_cons_succ]
                refine wpAnyH_take (i := 13) (oi := ({ dst := (some 152), op := (Op.load 5 (Operand.tmp 151)), type := 5, pos := "outright.go:127", after := #[{ on := 12, ground := Ground.data }, { on := 10, ground := Ground.guard }], guard := (some (10, false)) } : Oper)) (v := ?_) rfl (by kernel_rfl) (by kernel_rfl) (by kernel_rfl) (fun _ _ _ h => h) (Or.inl ⟨by rfl, ?_⟩) hHeld ?_
                rotate_left
                · intro w_ hSw; (try dsimp only at hSw); go_simp; try (with_reducible rfl)
                try simp only [Act.put, List.setIfInBounds_toArray, List.set_cons_zero, List.set_cons_succ]
                refine wpAnyH_take (i := 14) (oi := ({ dst := (some 153), op := (Op.move (Operand.tmp 16)), type := 3, pos := "outright.go:127", after := #[{ on := 10, ground := Ground.guard }], guard := (some (10, false)) } : Oper)) (v := ?_) rfl (by kernel_rfl) (by kernel_rfl) (by kernel_rfl) (fun _ _ _ h => h) (Or.inl ⟨by rfl, ?_⟩) hHeld ?_
                rotate_left
                · intro w_ hSw; (try dsimp only at hSw); go_simp; try (with_reducible rfl)
                try simp only [Act.put, List.setIfInBounds_toArray, List.set_cons_zero, List.set_cons_succ]
                refine wpAnyH_take (i := 15) (oi := ({ dst := (some 154), op := (Op.indexAddr 46 (Operand.tmp 12) (Operand.tmp 153)), type := 0, pos := "outright.go:127", after := #[{ on := 14, ground := Ground.data }, { on := 10, ground := Ground.guard }], guard := (some (10, false)) } : Oper)) (v := ?_) rfl (by kernel_rfl) (by kernel_rfl) (by kernel_rfl) (fun _ _ _ h => h) (Or.inl ⟨by rfl, ?_⟩) hHeld ?_
                rotate_left
                · intro w_ hSw; (try dsimp only at hSw); go_simp; try (with_reducible rfl)
                try simp only [Act.put, List.setIfInBounds_toArray, List.set_cons_zero, List.set_cons_succ]
                refine wpAnyH_take (i := 16) (oi := ({ dst := (some 155), op := (Op.load 5 (Operand.tmp 154)), type := 5, pos := "outright.go:127", after := #[{ on := 15, ground := Ground.data }, { on := 10, ground := Ground.guard }], guard := (some (10, false)) } : Oper)) (v := ?_) rfl (by kernel_rfl) (by kernel_rfl) (by kernel_rfl) (fun _ _ _ h => h) (Or.inl ⟨by rfl, ?_⟩) hHeld ?_
                rotate_left
                · intro w_ hSw; (try dsimp only at hSw); go_simp; try (with_reducible rfl)
                try simp only [Act.put, List.setIfInBounds_toArray, List.set_cons_zero, List.set_cons_succ]
                refine wpAnyH_take (i := 17) (oi := ({ dst := (some 156), op := (Op.move (Operand.tmp 1)), type := 27, pos := "outright.go:127", after := #[{ on := 10, ground := Ground.guard }], guard := (some (10, false)) } : Oper)) (v := ?_) rfl (by kernel_rfl) (by kernel_rfl) (by kernel_rfl) (fun _ _ _ h => h) (Or.inl ⟨by rfl, ?_⟩) hHeld ?_
                rotate_left
                · intro w_ hSw; (try dsimp only at hSw); go_simp; try (with_reducible rfl)
                try simp only [Act.put, List.setIfInBounds_toArray, List.set_cons_zero, List.set_cons_succ]
                refine wpAnyH_take (i := 18) (oi := ({ dst := (some 157), op := (Op.move (Operand.tmp 16)), type := 3, pos := "outright.go:127", after := #[{ on := 10, ground := Ground.guard }], guard := (some (10, false)) } : Oper)) (v := ?_) rfl (by kernel_rfl) (by kernel_rfl) (by kernel_rfl) (fun _ _ _ h => h) (Or.inl ⟨by rfl, ?_⟩) hHeld ?_
                rotate_left
                · intro w_ hSw; (try dsimp only at hSw); go_simp; try (with_reducible rfl)
                try simp only [Act.put, List.setIfInBounds_toArray, List.set_cons_zero, List.set_cons_succ]
                refine wpAnyH_ready (rs := [19]) (by kernel_rfl) (by simp) ?_
                refine AllReadyH.cons (o := ({ dst := (some 158), op := (Op.call { callee := (Callee.value (Operand.func 24)), args := #[(Operand.tmp 152), (Operand.tmp 155), (Operand.tmp 156), (Operand.tmp 157)], argTypes := #[5, 5, 27, 3] }), type := 4, pos := "outright.go:127", after := #[{ on := 13, ground := Ground.data }, { on := 16, ground := Ground.data }, { on := 17, ground := Ground.data }, { on := 18, ground := Ground.data }, { on := 10, ground := Ground.chain }, { on := 10, ground := Ground.guard }], guard := (some (10, false)) } : Oper)) rfl (fun K hK => ?_) AllReadyH.nil
                go_simp
                have CC := Aside0.mk (retconlaw12_among.calls kB b63 wn A1 c1 l1 x true _ (by rw [HN1.out]; exact Kd.C_below HC1.out HP.out.below) (by rw [HN1.out]; exact HCC1.out) HKB.out); rw [HN1.out] at CC; refine CC.out.mono ?_; rintro e w_ ⟨rfl, n2_, rfl⟩; clear CC; have HPn := Aside0.mk (HP.out.drewN n2_); clear HP; have HP := HPn; clear HPn; (try simp only [World.drewN_drewN] at HP)
                go_wp2_with fail
                clear hHeld
                refine hK.out _ _ ?_ (fun hHeld => ?_)
                · (try dsimp only); exact ⟨HH00.out _ _ _ (HP.out.blk 1 rfl), HH63.out _ _ _ (HP.out.blk 1 rfl), HWN.out _ (HP.out.blk 2 rfl)⟩
                clear hK K
                try simp only [Act.put, List.setIfInBounds_toArray, List.set_cons_zero, List.set_cons_succ]
                refine wpAnyH_take (i := 20) (oi := ({ dst := (some 159), op := (Op.unOp UnOp.not 4 (Operand.tmp 158)), type := 4, pos := "outright.go:127", after := #[{ on := 19, ground := Ground.data }, { on := 10, ground := Ground.guard }], guard := (some (10, false)) } : Oper)) (v := ?_) rfl (by kernel_rfl) (by kernel_rfl) (by kernel_rfl) (fun _ _ _ h => h) (Or.inl ⟨by rfl, ?_⟩) hHeld ?_
                rotate_left
                · intro w_ hSw; (try dsimp only at hSw); go_simp; try (with_reducible rfl)
                try simp only [Act.put, List.setIfInBounds_toArray, List.set_cons_zero, List.set_cons_succ]
                refine wpAnyH_take (i := 21) (oi := ({ dst := (some 160), op := (Op.pick (Operand.tmp 149) (Operand.const (Value.bool true)) (Operand.tmp 159)), type := 4, pos := "outright.go:127", after := #[{ on := 10, ground := Ground.data }, { on := 20, ground := Ground.data }], guard := none } : Oper)) (v := ?_) rfl (by kernel_rfl) (by kernel_rfl) (by kernel_rfl) (fun _ _ _ h => h) (Or.inl ⟨by rfl, ?_⟩) hHeld ?_
                rotate_left
                · intro w_ hSw; (try dsimp only at hSw); go_simp; try (with_reducible rfl)
                try simp only [Act.put, List.setIfInBounds_toArray, List.set_cons_zero, List.set_cons_succ]
                refine wpAnyH_done (by kernel_rfl) ?_ _
                have HPn := HP.out.drop1.drop1
                go_wp2_with fail
                go_roundg (gk - 1)
                case measure => have := HK.out; have := HX.out; omega
                case rel => exact ⟨j + 1, x + 1, odd, rfl, rfl, ⟨by have := HX.out; omega⟩, ⟨by have := HK.out; have := HX.out; omega⟩, ⟨HO.out.1, HO.out.2.1, fun h => by have := HO.out.2.2 h; omega⟩, ⟨HPn⟩⟩
              | false =>
                have HXM := Aside0.mk (show x = m from Classical.byContradiction fun h => by cases HRM.out h)
                have ho0 : odd = 0 := by
                  have h1 := HO.out
                  have h2 := HXM.out
                  rcases (show odd = 0 ∨ odd = 1 by omega) with h | h
                  · exact h
                  · have := h1.2.2 h; omega
                subst ho0
                go_wp2_with fail
                refine held_named (S := (fun w' => w'.cell? ⟨gr, 0, none⟩ = some (.int .u8 b00) ∧ w'.cell? ⟨gr, 63, none⟩ = some (.int .u8 b63) ∧ w'.cell? ⟨gw, x.toNat, none⟩ = some (.int .u8 wn))) (by kernel_rfl) (fun wd30 hwd30 => ?_)
                have HPn := Aside0.mk (HP.out.drewN 1)
                rw [← World.drew_is_drewN, hwd30] at HPn
                clear HP hwd30
                have HP := HPn
                clear HPn
                refine ⟨by (try dsimp only); exact ⟨HH00.out _ _ _ (HP.out.blk 1 rfl), HH63.out _ _ _ (HP.out.blk 1 rfl), HWN.out _ (HP.out.blk 2 rfl)⟩, fun hHeld => ?_⟩
                refine wpAnyH_take (i := 0) (oi := ({ dst := (some 139), op := (Op.move (Operand.tmp 17)), type := 27, pos := "outright.go:127", after := #[], guard := none } : Oper)) (v := ?_) rfl (by kernel_rfl) (by kernel_rfl) (by kernel_rfl) (fun _ _ _ h => h) (Or.inl ⟨by rfl, ?_⟩) hHeld ?_
                rotate_left
                · intro w_ hSw; (try dsimp only at hSw); go_simp; try (with_reducible rfl)
                try simp only [Act.put, List.setIfInBounds_toArray, List.set_cons_zero, List.set_cons_succ]
                refine wpAnyH_take (i := 1) (oi := ({ dst := (some 140), op := (Op.indexAddr 27 (Operand.tmp 139) (Operand.const (Value.int IntKind.i64 0))), type := 0, pos := "outright.go:127", after := #[{ on := 0, ground := Ground.data }], guard := none } : Oper)) (v := ?_) rfl (by kernel_rfl) (by kernel_rfl) (by kernel_rfl) (fun _ _ _ h => h) (Or.inl ⟨by rfl, ?_⟩) hHeld ?_
                rotate_left
                · intro w_ hSw; (try dsimp only at hSw); go_simp; try (with_reducible rfl)
                try simp only [Act.put, List.setIfInBounds_toArray, List.set_cons_zero, List.set_cons_succ]
                refine wpAnyH_take (i := 2) (oi := ({ dst := (some 141), op := (Op.load 5 (Operand.tmp 140)), type := 5, pos := "outright.go:127", after := #[{ on := 1, ground := Ground.data }], guard := none } : Oper)) (v := ?_) rfl (by kernel_rfl) (by kernel_rfl) (by kernel_rfl) (fun _ _ _ h => h) (Or.inl ⟨by rfl, ?_⟩) hHeld ?_
                rotate_left
                · intro w_ hSw; (try dsimp only at hSw); go_simp; try (with_reducible rfl)
                try simp only [Act.put, List.setIfInBounds_toArray, List.set_cons_zero, List.set_cons_succ]
                refine wpAnyH_take (i := 3) (oi := ({ dst := (some 142), op := (Op.move (Operand.tmp 16)), type := 3, pos := "outright.go:127", after := #[], guard := none } : Oper)) (v := ?_) rfl (by kernel_rfl) (by kernel_rfl) (by kernel_rfl) (fun _ _ _ h => h) (Or.inl ⟨by rfl, ?_⟩) hHeld ?_
                rotate_left
                · intro w_ hSw; (try dsimp only at hSw); go_simp; try (with_reducible rfl)
                try simp only [Act.put, List.setIfInBounds_toArray, List.set_cons_zero, List.set_cons_succ]
                refine wpAnyH_take (i := 4) (oi := ({ dst := (some 143), op := (Op.indexAddr 46 (Operand.tmp 12) (Operand.tmp 142)), type := 0, pos := "outright.go:127", after := #[{ on := 3, ground := Ground.data }], guard := none } : Oper)) (v := ?_) rfl (by kernel_rfl) (by kernel_rfl) (by kernel_rfl) (fun _ _ _ h => h) (Or.inl ⟨by rfl, ?_⟩) hHeld ?_
                rotate_left
                · intro w_ hSw; (try dsimp only at hSw); go_simp; try (with_reducible rfl)
                try simp only [Act.put, List.setIfInBounds_toArray, List.set_cons_zero, List.set_cons_succ]
                refine wpAnyH_take (i := 5) (oi := ({ dst := (some 144), op := (Op.load 5 (Operand.tmp 143)), type := 5, pos := "outright.go:127", after := #[{ on := 4, ground := Ground.data }], guard := none } : Oper)) (v := ?_) rfl (by kernel_rfl) (by kernel_rfl) (by kernel_rfl) (fun _ _ _ h => h) (Or.inl ⟨by rfl, ?_⟩) hHeld ?_
                rotate_left
                · intro w_ hSw; (try dsimp only at hSw); go_simp; try (with_reducible rfl)
                try simp only [Act.put, List.setIfInBounds_toArray, List.set_cons_zero, List.set_cons_succ]
                refine wpAnyH_take (i := 6) (oi := ({ dst := (some 145), op := (Op.move (Operand.tmp 1)), type := 27, pos := "outright.go:127", after := #[], guard := none } : Oper)) (v := ?_) rfl (by kernel_rfl) (by kernel_rfl) (by kernel_rfl) (fun _ _ _ h => h) (Or.inl ⟨by rfl, ?_⟩) hHeld ?_
                rotate_left
                · intro w_ hSw; (try dsimp only at hSw); go_simp; try (with_reducible rfl)
                try simp only [Act.put, List.setIfInBounds_toArray, List.set_cons_zero, List.set_cons_succ]
                refine wpAnyH_take (i := 7) (oi := ({ dst := (some 146), op := (Op.move (Operand.tmp 16)), type := 3, pos := "outright.go:127", after := #[], guard := none } : Oper)) (v := ?_) rfl (by kernel_rfl) (by kernel_rfl) (by kernel_rfl) (fun _ _ _ h => h) (Or.inl ⟨by rfl, ?_⟩) hHeld ?_
                rotate_left
                · intro w_ hSw; (try dsimp only at hSw); go_simp; try (with_reducible rfl)
                try simp only [Act.put, List.setIfInBounds_toArray, List.set_cons_zero, List.set_cons_succ]
                refine wpAnyH_ready (rs := [8]) (by kernel_rfl) (by simp) ?_
                refine AllReadyH.cons (o := ({ dst := (some 147), op := (Op.call { callee := (Callee.value (Operand.func 24)), args := #[(Operand.tmp 141), (Operand.tmp 144), (Operand.tmp 145), (Operand.tmp 146)], argTypes := #[5, 5, 27, 3] }), type := 4, pos := "outright.go:127", after := #[{ on := 2, ground := Ground.data }, { on := 5, ground := Ground.data }, { on := 6, ground := Ground.data }, { on := 7, ground := Ground.data }], guard := none } : Oper)) rfl (fun K hK => ?_) AllReadyH.nil
                go_simp
                have CC := Aside0.mk (retconlaw12_among.calls kA b00 wn A1 c1 l1 x true _ (by rw [HN1.out]; exact Kd.C_below HC1.out HP.out.below) (by rw [HN1.out]; exact HCC1.out) HKA.out); rw [HN1.out] at CC; refine CC.out.mono ?_; rintro e w_ ⟨rfl, n1_, rfl⟩; clear CC; have HPn := Aside0.mk (HP.out.drewN n1_); clear HP; have HP := HPn; clear HPn; (try simp only [World.drewN_drewN] at HP)
                go_wp2_with fail
                clear hHeld
                refine hK.out _ _ ?_ (fun hHeld => ?_)
                · (try dsimp only); exact ⟨HH00.out _ _ _ (HP.out.blk 1 rfl), HH63.out _ _ _ (HP.out.blk 1 rfl), HWN.out _ (HP.out.blk 2 rfl)⟩
                clear hK K
                try simp only [Act.put, List.setIfInBounds_toArray, List.set_cons_zero, List.set_cons_succ]
                refine wpAnyH_take (i := 9) (oi := ({ dst := (some 148), op := (Op.unOp UnOp.not 4 (Operand.tmp 147)), type := 4, pos := "outright.go:127", after := #[{ on := 8, ground := Ground.data }], guard := none } : Oper)) (v := ?_) rfl (by kernel_rfl) (by kernel_rfl) (by kernel_rfl) (fun _ _ _ h => h) (Or.inl ⟨by rfl, ?_⟩) hHeld ?_
                rotate_left
                · intro w_ hSw; (try dsimp only at hSw); go_simp; try (with_reducible rfl)
                try simp only [Act.put, List.setIfInBounds_toArray, List.set_cons_zero, List.set_cons_succ]
                refine wpAnyH_take (i := 10) (oi := ({ dst := (some 149), op := (Op.move (Operand.tmp 148)), type := 4, pos := "outright.go:127", after := #[{ on := 9, ground := Ground.data }, { on := 8, ground := Ground.chain }], guard := none } : Oper)) (v := ?_) rfl (by kernel_rfl) (by kernel_rfl) (by kernel_rfl) (fun _ _ _ h => h) (Or.inl ⟨by rfl, ?_⟩) hHeld ?_
                rotate_left
                · intro w_ hSw; (try dsimp only at hSw); go_simp; try (with_reducible rfl)
                try simp only [Act.put, List.setIfInBounds_toArray, List.set_cons_zero, List.set_cons_succ]
                refine wpAnyH_take (i := 11) (oi := ({ dst := (some 150), op := (Op.move (Operand.tmp 17)), type := 27, pos := "outright.go:127", after := #[{ on := 10, ground := Ground.guard }], guard := (some (10, false)) } : Oper)) (v := ?_) rfl (by kernel_rfl) (by kernel_rfl) (by kernel_rfl) (fun _ _ _ h => h) (Or.inl ⟨by rfl, ?_⟩) hHeld ?_
                rotate_left
                · intro w_ hSw; (try dsimp only at hSw); go_simp; try (with_reducible rfl)
                try simp only [Act.put, List.setIfInBounds_toArray, List.set_cons_zero, List.set_cons_succ]
                refine wpAnyH_take (i := 12) (oi := ({ dst := (some 151), op := (Op.indexAddr 27 (Operand.tmp 150) (Operand.const (Value.int IntKind.i64 63))), type := 0, pos := "outright.go:127", after := #[{ on := 11, ground := Ground.data }, { on := 10, ground := Ground.guard }], guard := (some (10, false)) } : Oper)) (v := ?_) rfl (by kernel_rfl) (by kernel_rfl) (by kernel_rfl) (fun _ _ _ h => h) (Or.inl ⟨by rfl, ?_⟩) hHeld ?_
                rotate_left
                · intro w_ hSw; (try dsimp only at hSw); go_simp; try (with_reducible rfl)
                try simp only [Act.put, List.setIfInBounds_toArray, List.set_cons_zero, List.set_cons_succ]
                refine wpAnyH_take (i := 13) (oi := ({ dst := (some 152), op := (Op.load 5 (Operand.tmp 151)), type := 5, pos := "outright.go:127", after := #[{ on := 12, ground := Ground.data }, { on := 10, ground := Ground.guard }], guard := (some (10, false)) } : Oper)) (v := ?_) rfl (by kernel_rfl) (by kernel_rfl) (by kernel_rfl) (fun _ _ _ h => h) (Or.inl ⟨by rfl, ?_⟩) hHeld ?_
                rotate_left
                · intro w_ hSw; (try dsimp only at hSw); go_simp; try (with_reducible rfl)
                try simp only [Act.put, List.setIfInBounds_toArray, List.set_cons_zero, List.set_cons_succ]
                refine wpAnyH_take (i := 14) (oi := ({ dst := (some 153), op := (Op.move (Operand.tmp 16)), type := 3, pos := "outright.go:127", after := #[{ on := 10, ground := Ground.guard }], guard := (some (10, false)) } : Oper)) (v := ?_) rfl (by kernel_rfl) (by kernel_rfl) (by kernel_rfl) (fun _ _ _ h => h) (Or.inl ⟨by rfl, ?_⟩) hHeld ?_
                rotate_left
                · intro w_ hSw; (try dsimp only at hSw); go_simp; try (with_reducible rfl)
                try simp only [Act.put, List.setIfInBounds_toArray, List.set_cons_zero, List.set_cons_succ]
                refine wpAnyH_take (i := 15) (oi := ({ dst := (some 154), op := (Op.indexAddr 46 (Operand.tmp 12) (Operand.tmp 153)), type := 0, pos := "outright.go:127", after := #[{ on := 14, ground := Ground.data }, { on := 10, ground := Ground.guard }], guard := (some (10, false)) } : Oper)) (v := ?_) rfl (by kernel_rfl) (by kernel_rfl) (by kernel_rfl) (fun _ _ _ h => h) (Or.inl ⟨by rfl, ?_⟩) hHeld ?_
                rotate_left
                · intro w_ hSw; (try dsimp only at hSw); go_simp; try (with_reducible rfl)
                try simp only [Act.put, List.setIfInBounds_toArray, List.set_cons_zero, List.set_cons_succ]
                refine wpAnyH_take (i := 16) (oi := ({ dst := (some 155), op := (Op.load 5 (Operand.tmp 154)), type := 5, pos := "outright.go:127", after := #[{ on := 15, ground := Ground.data }, { on := 10, ground := Ground.guard }], guard := (some (10, false)) } : Oper)) (v := ?_) rfl (by kernel_rfl) (by kernel_rfl) (by kernel_rfl) (fun _ _ _ h => h) (Or.inl ⟨by rfl, ?_⟩) hHeld ?_
                rotate_left
                · intro w_ hSw; (try dsimp only at hSw); go_simp; try (with_reducible rfl)
                try simp only [Act.put, List.setIfInBounds_toArray, List.set_cons_zero, List.set_cons_succ]
                refine wpAnyH_take (i := 17) (oi := ({ dst := (some 156), op := (Op.move (Operand.tmp 1)), type := 27, pos := "outright.go:127", after := #[{ on := 10, ground := Ground.guard }], guard := (some (10, false)) } : Oper)) (v := ?_) rfl (by kernel_rfl) (by kernel_rfl) (by kernel_rfl) (fun _ _ _ h => h) (Or.inl ⟨by rfl, ?_⟩) hHeld ?_
                rotate_left
                · intro w_ hSw; (try dsimp only at hSw); go_simp; try (with_reducible rfl)
                try simp only [Act.put, List.setIfInBounds_toArray, List.set_cons_zero, List.set_cons_succ]
                refine wpAnyH_take (i := 18) (oi := ({ dst := (some 157), op := (Op.move (Operand.tmp 16)), type := 3, pos := "outright.go:127", after := #[{ on := 10, ground := Ground.guard }], guard := (some (10, false)) } : Oper)) (v := ?_) rfl (by kernel_rfl) (by kernel_rfl) (by kernel_rfl) (fun _ _ _ h => h) (Or.inl ⟨by rfl, ?_⟩) hHeld ?_
                rotate_left
                · intro w_ hSw; (try dsimp only at hSw); go_simp; try (with_reducible rfl)
                try simp only [Act.put, List.setIfInBounds_toArray, List.set_cons_zero, List.set_cons_succ]
                refine wpAnyH_ready (rs := [19]) (by kernel_rfl) (by simp) ?_
                refine AllReadyH.cons (o := ({ dst := (some 158), op := (Op.call { callee := (Callee.value (Operand.func 24)), args := #[(Operand.tmp 152), (Operand.tmp 155), (Operand.tmp 156), (Operand.tmp 157)], argTypes := #[5, 5, 27, 3] }), type := 4, pos := "outright.go:127", after := #[{ on := 13, ground := Ground.data }, { on := 16, ground := Ground.data }, { on := 17, ground := Ground.data }, { on := 18, ground := Ground.data }, { on := 10, ground := Ground.chain }, { on := 10, ground := Ground.guard }], guard := (some (10, false)) } : Oper)) rfl (fun K hK => ?_) AllReadyH.nil
                go_simp
                have CC := Aside0.mk (retconlaw12_among.calls kB b63 wn A1 c1 l1 x true _ (by rw [HN1.out]; exact Kd.C_below HC1.out HP.out.below) (by rw [HN1.out]; exact HCC1.out) HKB.out); rw [HN1.out] at CC; refine CC.out.mono ?_; rintro e w_ ⟨rfl, n2_, rfl⟩; clear CC; have HPn := Aside0.mk (HP.out.drewN n2_); clear HP; have HP := HPn; clear HPn; (try simp only [World.drewN_drewN] at HP)
                go_wp2_with fail
                clear hHeld
                refine hK.out _ _ ?_ (fun hHeld => ?_)
                · (try dsimp only); exact ⟨HH00.out _ _ _ (HP.out.blk 1 rfl), HH63.out _ _ _ (HP.out.blk 1 rfl), HWN.out _ (HP.out.blk 2 rfl)⟩
                clear hK K
                try simp only [Act.put, List.setIfInBounds_toArray, List.set_cons_zero, List.set_cons_succ]
                refine wpAnyH_take (i := 20) (oi := ({ dst := (some 159), op := (Op.unOp UnOp.not 4 (Operand.tmp 158)), type := 4, pos := "outright.go:127", after := #[{ on := 19, ground := Ground.data }, { on := 10, ground := Ground.guard }], guard := (some (10, false)) } : Oper)) (v := ?_) rfl (by kernel_rfl) (by kernel_rfl) (by kernel_rfl) (fun _ _ _ h => h) (Or.inl ⟨by rfl, ?_⟩) hHeld ?_
                rotate_left
                · intro w_ hSw; (try dsimp only at hSw); go_simp; try (with_reducible rfl)
                try simp only [Act.put, List.setIfInBounds_toArray, List.set_cons_zero, List.set_cons_succ]
                refine wpAnyH_take (i := 21) (oi := ({ dst := (some 160), op := (Op.pick (Operand.tmp 149) (Operand.const (Value.bool true)) (Operand.tmp 159)), type := 4, pos := "outright.go:127", after := #[{ on := 10, ground := Ground.data }, { on := 20, ground := Ground.data }], guard := none } : Oper)) (v := ?_) rfl (by kernel_rfl) (by kernel_rfl) (by kernel_rfl) (fun _ _ _ h => h) (Or.inl ⟨by rfl, ?_⟩) hHeld ?_
                rotate_left
                · intro w_ hSw; (try dsimp only at hSw); go_simp; try (with_reducible rfl)
                try simp only [Act.put, List.setIfInBounds_toArray, List.set_cons_zero, List.set_cons_succ]
                refine wpAnyH_done (by kernel_rfl) ?_ _
                have HPn := HP.out.drop1.drop1
                go_wp2_with fail
                go_roundg (gk - 1)
                case measure => have := HK.out; have := HX.out; omega
                case rel => exact ⟨j + 1, x + 1, 1, by first | rfl | simp, rfl, ⟨by have := HX.out; omega⟩, ⟨by have := HK.out; have := HX.out; omega⟩, ⟨by decide, by decide, fun h => by have := HXM.out; omega⟩, ⟨HPn⟩⟩
            · have d1 : decide (x < 4) = false := decide_eq_false (by omega)
              have d9 : decide (odd ≤ 1) = true := decide_eq_true HO.out.2.1
              clear hx c1_
              go_wp2_with fail
              go_ret
              exact ⟨rfl, HP.out.below⟩
end Go.Proofs.Ytejfocliopbocaa.D
