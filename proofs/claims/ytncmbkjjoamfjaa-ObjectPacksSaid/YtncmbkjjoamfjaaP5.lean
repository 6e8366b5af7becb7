import Derived.Test.YtncmbkjjoamfjaaP4
import Derived.Test.YtncmbkjjoamfjaaXa
namespace Go.Proofs.Ytncmbkjjoamfjaa.H
open Go.RowKit Go.Proofs.Ytncmbkjjoamfjaa.XH Go.Proofs.YtncmbkjjoamfjaaW.PrintWords Go.Proofs.YtncmbkjjoamfjaaW.PrintLast Go.Proofs.YtncmbkjjoamfjaaW.PrintMore Go.Proofs.YtncmbkjjoamfjaaXe Go.Proofs.YtncmbkjjoamfjaaXs
set_option linter.unusedVariables false
set_option linter.unusedSimpArgs false
attribute [local go_sem ↓] Go.wp_at_zero Go.wp_at_succ
attribute [local go_sem] valUpon
attribute [local go_sem ↓ high] bn29
attribute [local go_sem high] BN29.z
set_option maxHeartbeats 8000000 in
set_option maxRecDepth 100000 in
theorem c_pack0 (kind : Int) (A : Option Addr) (c : Nat) (b : List Int) (w : World) (hr : Kd.C (Kd.int .u8) w A b.length b) (hc : b.length ≤ c) (hm : b.length ≤ 1000000) (hB : Bytes b) (hk0 : chkO kind b.length ≠ 0) :
    Calls Try.prog 10 #[.int .i64 kind, .slice A b.length c] w fun e w' => e = .returned (.tuple #[.slice none 0 0, .int .i64 (chkO kind b.length)]) ∧ Below w.heap.size w w' := by
  have HR := Aside0.mk hr
  have HC := Aside0.mk hc
  have HM := Aside0.mk hm
  have CI := Aside0.mk (fun w hr => c_id kind A c b w hr hc hm hB)
  obtain ⟨ck, hck⟩ : ∃ z, chkO kind b.length = z := ⟨_, rfl⟩
  have HCK := Aside0.mk hck
  rw [hck] at CI
  rw [hck] at hk0
  rw [hck]
  have HP := Aside0.mk (Hp.start w)
  clear hr hc hm hB hck
  by_cases h0 : ck = 0
  · exact absurd h0 hk0
  · have d0 : (ck != 0) = true := bne_iff_ne.2 h0
    have HIL := Aside0.mk (idO_len kind b)
    clear h0 hk0
    go_enter Try.func10, Try.ntmps10
    go_wp2_with fail
    (with_reducible refine (CI.out _ HR.out).mono ?_); rintro e wn1 ⟨rfl, hb⟩; have HPn := Aside0.mk (HP.out.call hb); clear HP; have HP := HPn; clear HPn; clear hb
    go_wp2_with (first | ((with_reducible refine gate_dst (N := 6) rfl ?_); refine ev_alloc rfl 29 rfl (.agg (u8s z32).toArray) (by kernel_rfl) ?_; intro g_i wn2 hge hg hb; have HPn := Aside0.mk (HP.out.newB hb hg hge); clear HP; have HP := HPn; clear HPn; clear hge hg hb) | ((with_reducible refine gate_store (t := 29) (p := 6) rfl ?_); refine ev_store rfl 29 (.tmp 6) (.tmp 15) rfl rfl _ rfl (cells := (u8s (idO kind b)).toArray) rfl (HP.out.blk 0 rfl) (by rw [List.size_toArray, u8s_len, HIL.out]; kernel_rfl) (show (u8s z32).toArray.size = (u8s (idO kind b)).toArray.size from by rw [List.size_toArray, List.size_toArray, u8s_len, u8s_len, z32_len, HIL.out]) (one_u8 _) ?_; intro wn3 hg hgr; have HPn := Aside0.mk (HP.out.setB 0 rfl hgr hg); clear HP; have HP := HPn; clear HPn; clear hg hgr))
    refine bodyPost_ret (results_two_tmps rfl _ _ rfl rfl) rfl ?_
    exact ⟨rfl, HP.out.below⟩
theorem eqi_ints {P : Program} {w : World} {d : Nat} {e : TypeId} {k : IntKind} (hu : P.underlying e = some (.int k)) (hs : (P.info? e).map (·.size) = some 1) (x y : List Int) (hxy : x.length = y.length) : ∀ (n o : Nat), o + n ≤ x.length →
    (Op.eqItems (d + 1) e 1 (x.map (Value.int k)).toArray (y.map (Value.int k)).toArray (List.range' o n)).run P w = .ok (decide ((x.drop o).take n = (y.drop o).take n)) w
  | 0, o, _ => by simp [Op.eqItems]
  | n + 1, o, h => by
    obtain ⟨i, hi, hsi⟩ := Option.map_eq_some_iff.1 hs
    have h1 : o < x.length := by omega
    have h2 : o < y.length := by omega
    rw [List.range'_succ]
    have ha : (part e (x.map (Value.int k)).toArray (o * 1)).run P w = .ok (.int k x[o]) w := by simp [part, isAgg, run_underlying hu, h1]
    have hb : (part e (y.map (Value.int k)).toArray (o * 1)).run P w = .ok (.int k y[o]) w := by simp [part, isAgg, run_underlying hu, h2]
    have he : (Op.equalIn (d + 1) e (.int k x[o]) (.int k y[o])).run P w = .ok (x[o] == y[o]) w := by simp [Op.equalIn, run_underlying hu]
    rw [Go.Proofs.YtncmbkjjoamfjaaXa.eqi_cons ha hb he (eqi_ints hu hs x y hxy n (o + 1) (by omega))]
    congr 1
    rw [List.drop_eq_getElem_cons h1, List.drop_eq_getElem_cons h2, List.take_succ_cons, List.take_succ_cons, Bool.eq_iff_iff]
    simp only [Bool.and_eq_true, beq_iff_eq, decide_eq_true_eq, List.cons.injEq]
theorem eq_id (d : Nat) (w : World) (x y : List Int) (hx : x.length = 32) (hy : y.length = 32) : (Op.equalIn (d + 2) 29 (.agg (u8s x).toArray) (.agg (u8s y).toArray)).run Try.prog w = .ok (decide (x = y)) w := by
  refine Go.Proofs.YtncmbkjjoamfjaaXa.eqB_of Try.underlying29 (n := 32) (e := 5) (c := 1) (by kernel_rfl) (by kernel_rfl) (is := List.range' 0 32) (by decide) ?_
  have h := eqi_ints (P := Try.prog) (w := w) (d := d) (k := .u8) Try.underlying5 (by kernel_rfl) x y (by omega) 32 0 (by omega)
  rw [List.drop_zero, List.drop_zero, List.take_of_length_le (by omega), List.take_of_length_le (by omega)] at h
  exact h
theorem C_lent {w : World} {g : Nat} {b t : List Int} (hg : w.heap[g]? = some (.cells (u8s (b ++ t)).toArray 5 (0, 0))) (hm : (b ++ t).length ≤ 9223372036854775807) : Kd.C (Kd.int .u8) w (some ⟨g, 0, none⟩) b.length b := by
  have h := Kd.C_take (m := b.length) (C_blkW (k := .u8) hg hm) (by rw [List.length_append]; omega)
  rw [List.take_left' rfl] at h
  exact h
theorem C_pre {w : World} {g : Nat} {L l : List Int} (hg : w.heap[g]? = some (.cells (u8s l).toArray 5 (0, 0))) (hm : l.length ≤ 9223372036854775807) (ht : l.take L.length = L) (hl : L.length ≤ l.length) : Kd.C (Kd.int .u8) w (some ⟨g, 0, none⟩) L.length L := by
  have h := Kd.C_take (m := L.length) (C_blkW (k := .u8) hg hm) hl
  rw [ht] at h
  exact h
theorem ev_make {P : Program} {ops : Array Oper} {rest : List Oper} {o : Oper} {a : Act} {Q : Exit → Act → World → Prop} {W : World} (hw : Region.wanted o (yielded ops a.tmps) = true) (t : TypeId) (x y : Operand) (ho : o.op = .makeSlice t x y)
    {vx vy v : Value} {w1 : World} (hx : a.eval x = vx) (hy : a.eval y = vy) (hr : (Instr.makeSlice t vx vy).run P W = .ok v w1) (h : wpList P ops Q rest (a.put o.dst v) w1) : wpList P ops Q (o :: rest) a W :=
  ev_run hw (by simp [execOp, ho, hx, hy, hr]) h
theorem lent_lenB (b : List Int) : (b ++ lentT b.length).length = b.length + 3 := by simp [lentT]
set_option maxHeartbeats 8000000 in
set_option maxRecDepth 100000 in
theorem objectPacks_law (a0 : Int) (A : Option Addr) (c : Nat) (b : List Int) (w : World) (hr : Kd.C (Kd.int .u8) w A b.length b) (hc : b.length ≤ c) (hB : Bytes b) (n : Int) (lg : Bool) :
    Calls Try.prog 3 #[.int .i64 a0, .slice A b.length c, .int .i64 n, .bool lg] w fun e w' => e = .returned (.bool true) ∧ Below w.heap.size w w' := by
  have HR := Aside0.mk hr
  have HC := Aside0.mk hc
  have HB := Aside0.mk hB
  have HP := Aside0.mk (Hp.start w)
  have HW := Aside0.mk (Below.refl w.heap.size w)
  clear hr hc hB
  by_cases c1 : (1000 : Int) < (b.length : Int)
  · have c1b : decide ((1000 : Int) < (b.length : Int)) = true := decide_eq_true c1
    go_enter Try.func3, Try.ntmps3
    go_wp2_with fail
    refine (c_awake _).mono ?_; rintro e wB ⟨rfl, hb⟩; have HPn := Aside0.mk (HP.out.call hb); clear HP; have HP := HPn; clear HPn; clear hb
    go_wp2_with fail
    go_ret
    exact ⟨rfl, HP.out.below⟩
  have c1b : decide ((1000 : Int) < (b.length : Int)) = false := decide_eq_false c1
  have HN := Aside0.mk (show b.length ≤ 70000 by omega)
  clear c1
  cases lg
  · go_enter Try.func3, Try.ntmps3
    go_wp2_with fail
    have hN := HN.out
    refine (c_lent A c b _ (Kd.C_below HR.out HP.out.below) HC.out (by omega)).mono ?_; rintro e w2 ⟨g9, rfl, hge, hg, hb⟩
    have HPn := Aside0.mk (HP.out.newB hb hg hge)
    clear HP hb hg hge
    have HP := HPn
    clear HPn
    have HLC := Aside0.mk (fun (w' : World) (h : w'.heap[g9]? = _) => C_lent h (by rw [lent_lenB]; omega) : ∀ w' : World, w'.heap[g9]? = some (.cells (u8s (b ++ lentT b.length)).toArray 5 (0, 0)) → Kd.C (Kd.int .u8) w' (some ⟨g9, 0, none⟩) b.length b)
    have HIL := Aside0.mk (idO_len a0 b)
    have heq : ∀ d w, (Op.equalIn (d + 2) 29 (.agg (u8s (idO a0 b)).toArray) (.agg (u8s (idO a0 b)).toArray)).run Try.prog w = .ok true w := fun d w => by rw [eq_id d w _ _ HIL.out HIL.out]; simp
    have CI := Aside0.mk (fun w hr => c_id a0 (some ⟨g9, 0, none⟩) (b.length + 3) b w hr (by omega) (by omega) HB.out)
    have CJ := Aside0.mk (fun w hr => c_rid a0 A c b w hr HC.out (by omega) HB.out)
    have CR := Aside0.mk (fun w hr => c_rpack a0 A c b w hr HC.out (by omega) HB.out)
    have CK := Aside0.mk (fun w hg hr => c_kept g9 A c b w hg hr HC.out (by omega))
    have CS := Aside0.mk (fun w => object_Sectors.calls 5 n (secO n) w (sectors_f n))
    have CT := Aside0.mk (fun w => retconref15_Sectors.calls 5 n (secO n) w (rsectors_f n))
    obtain ⟨iv, hiv⟩ : ∃ z, idO a0 b = z := ⟨_, rfl⟩
    obtain ⟨sn, hsn⟩ : ∃ z, secO n = z := ⟨_, rfl⟩
    rw [hiv] at HIL CI CJ
    rw [hiv] at heq
    rw [hsn] at CS CT
    clear hiv hsn hN
    go_wp2_with fail
    by_cases hk0 : chkO a0 b.length = 0
    · rw [show packR a0 b = packO a0 b from by unfold packR; rw [if_pos hk0]] at CR
      rw [hk0] at CI CJ CR
      have CP := Aside0.mk (c_pack8 a0 (some ⟨g9, 0, none⟩) (b.length + 3) b _ (HLC.out _ (HP.out.blk 0 rfl)) (by omega) (by have := HN.out; omega) HB.out hk0)
      obtain ⟨X, hX⟩ : ∃ z, packO a0 b = z := ⟨_, rfl⟩
      rw [hX] at CP CR
      clear hX hk0
      refine CP.out.mono ?_; rintro e w3 ⟨g10, l10, rfl, ht1, ht2, ht3, hge, hg, hb⟩
      have HX := Aside0.mk (And.intro ht1 (And.intro ht2 ht3))
      clear CP ht1 ht2 ht3
      have HPn := Aside0.mk (HP.out.newB hb hg hge)
      clear HP hb hg hge
      have HP := HPn
      clear HPn
      go_wp2_with fail
      refine (CR.out _ (Kd.C_below HR.out HP.out.below)).mono ?_; rintro e w4 ⟨vy, rfl, ho, hb⟩
      have HPn := Aside0.mk (HP.out.newR hb ho)
      clear HP ho hb
      have HP := HPn
      clear HPn
      obtain ⟨Ay, cy, rfl⟩ := Kd.R_slice (HP.out.row 0 rfl)
      go_wp2_with fail
      (with_reducible refine (CI.out _ (HLC.out _ (HP.out.blk 2 rfl))).mono ?_); rintro e w5 ⟨rfl, hb⟩; have HPn := Aside0.mk (HP.out.call hb); clear HP; have HP := HPn; clear HPn; clear hb
      go_wp2_with (first | ((with_reducible refine gate_dst (N := 14) rfl ?_); refine ev_alloc rfl 29 rfl (.agg (u8s z32).toArray) (by kernel_rfl) ?_; intro g_1 w6a hge hg hb; have HPn := Aside0.mk (HP.out.newB hb hg hge); clear HP; have HP := HPn; clear HPn; clear hge hg hb) | ((with_reducible refine gate_store (t := 29) (p := 14) rfl ?_); refine ev_store rfl 29 (.tmp 14) (.tmp 43) rfl rfl _ rfl (cells := (u8s iv).toArray) rfl (HP.out.blk 0 rfl) (by rw [List.size_toArray, u8s_len, HIL.out]; kernel_rfl) (show (u8s z32).toArray.size = (u8s iv).toArray.size from by rw [List.size_toArray, List.size_toArray, u8s_len, u8s_len, z32_len, HIL.out]) (one_u8 _) ?_; intro w6b hg hgr; have HPn := Aside0.mk (HP.out.setB 0 rfl hgr hg); clear HP; have HP := HPn; clear HPn; clear hg hgr))
      (with_reducible refine (CJ.out _ (Kd.C_below HR.out HP.out.below)).mono ?_); rintro e w7 ⟨rfl, hb⟩; have HPn := Aside0.mk (HP.out.call hb); clear HP; have HP := HPn; clear HPn; clear hb
      go_wp2_with (first | ((with_reducible refine gate_dst (N := 16) rfl ?_); refine ev_alloc rfl 29 rfl (.agg (u8s z32).toArray) (by kernel_rfl) ?_; intro g_2 w8a hge hg hb; have HPn := Aside0.mk (HP.out.newB hb hg hge); clear HP; have HP := HPn; clear HPn; clear hge hg hb) | ((with_reducible refine gate_store (t := 29) (p := 16) rfl ?_); refine ev_store rfl 29 (.tmp 16) (.tmp 49) rfl rfl _ rfl (cells := (u8s iv).toArray) rfl (HP.out.blk 0 rfl) (by rw [List.size_toArray, u8s_len, HIL.out]; kernel_rfl) (show (u8s z32).toArray.size = (u8s iv).toArray.size from by rw [List.size_toArray, List.size_toArray, u8s_len, u8s_len, z32_len, HIL.out]) (one_u8 _) ?_; intro w8b hg hgr; have HPn := Aside0.mk (HP.out.setB 0 rfl hgr hg); clear HP; have HP := HPn; clear HPn; clear hg hgr))
      refine (retconkit_SameBytes.calls (some ⟨g10, 0, none⟩) l10.length X Ay cy X true _ (C_pre (HP.out.blk 3 rfl) HX.out.2.2 HX.out.1 HX.out.2.1) HX.out.2.1 (Kd.R_reads' (HP.out.row 2 rfl)).2.2 (Kd.R_reads' (HP.out.row 2 rfl)).2.1 (same_f _)).mono ?_; rintro e w_ ⟨rfl, n1, rfl⟩; have HPn := Aside0.mk (HP.out.drewN n1); clear HP; have HP := HPn; clear HPn; (try simp only [World.drewN_drewN] at HP)
      go_wp2_with (first | ((with_reducible refine gate_dst (N := 60) rfl ?_); refine ev_load rfl 29 (.tmp 14) rfl g_1 rfl (HP.out.blk 1 rfl) Try.underlying29 rfl (by rw [List.size_toArray, u8s_len, HIL.out]; kernel_rfl) ?_) | ((with_reducible refine gate_dst (N := 61) rfl ?_); refine ev_load rfl 29 (.tmp 16) rfl g_2 rfl (HP.out.blk 0 rfl) Try.underlying29 rfl (by rw [List.size_toArray, u8s_len, HIL.out]; kernel_rfl) ?_))
      refine (CS.out _).mono ?_; rintro e w_ ⟨rfl, n2, rfl⟩; have HPn := Aside0.mk (HP.out.drewN n2); clear HP; have HP := HPn; clear HPn; (try simp only [World.drewN_drewN] at HP)
      go_wp2_with fail
      refine (CT.out _).mono ?_; rintro e w_ ⟨rfl, n3, rfl⟩; have HPn := Aside0.mk (HP.out.drewN n3); clear HP; have HP := HPn; clear HPn; (try simp only [World.drewN_drewN] at HP)
      go_wp2_with fail
      refine (c_overM HP.out 3 g10 l10 X.length rfl HX.out.2.1 HX.out.2.2).mono ?_; rintro e w9 ⟨rfl, l11, -, hp⟩
      clear HP
      have HP := Aside0.mk hp
      clear hp
      go_wp2_with fail
      (with_reducible refine (CK.out _ (HP.out.blk 4 rfl) (Kd.C_below HR.out HP.out.below)).mono ?_); rintro e wA ⟨rfl, hb⟩; have HPn := Aside0.mk (HP.out.call hb); clear HP; have HP := HPn; clear HPn; clear hb
      go_wp2_with fail
      refine (c_awake _).mono ?_; rintro e wB ⟨rfl, hb⟩; have HPn := Aside0.mk (HP.out.call hb); clear HP; have HP := HPn; clear HPn; clear hb
      go_wp2_with fail
      go_ret
      exact ⟨rfl, below_then HW.out HW.out.size HP.out.below⟩
    · rw [show packR a0 b = [] from by unfold packR; rw [if_neg hk0]] at CR
      have CP := Aside0.mk (c_pack0 a0 (some ⟨g9, 0, none⟩) (b.length + 3) b _ (HLC.out _ (HP.out.blk 0 rfl)) (by omega) (by have := HN.out; omega) HB.out hk0)
      obtain ⟨ck, hck⟩ : ∃ z, chkO a0 b.length = z := ⟨_, rfl⟩
      rw [hck] at CP CR CI CJ
      clear hck hk0
      refine CP.out.mono ?_; rintro e w3 ⟨rfl, hb⟩; have HPn := Aside0.mk (HP.out.call hb); clear HP; have HP := HPn; clear HPn; clear hb CP
      go_wp2_with fail
      refine (CR.out _ (Kd.C_below HR.out HP.out.below)).mono ?_; rintro e w4 ⟨vy, rfl, ho, hb⟩
      have HPn := Aside0.mk (HP.out.newR hb ho)
      clear HP ho hb
      have HP := HPn
      clear HPn
      obtain ⟨Ay, cy, rfl⟩ := Kd.R_slice (HP.out.row 0 rfl)
      go_wp2_with fail
      (with_reducible refine (CI.out _ (HLC.out _ (HP.out.blk 1 rfl))).mono ?_); rintro e w5 ⟨rfl, hb⟩; have HPn := Aside0.mk (HP.out.call hb); clear HP; have HP := HPn; clear HPn; clear hb
      go_wp2_with (first | ((with_reducible refine gate_dst (N := 14) rfl ?_); refine ev_alloc rfl 29 rfl (.agg (u8s z32).toArray) (by kernel_rfl) ?_; intro g_1 w6a hge hg hb; have HPn := Aside0.mk (HP.out.newB hb hg hge); clear HP; have HP := HPn; clear HPn; clear hge hg hb) | ((with_reducible refine gate_store (t := 29) (p := 14) rfl ?_); refine ev_store rfl 29 (.tmp 14) (.tmp 43) rfl rfl _ rfl (cells := (u8s iv).toArray) rfl (HP.out.blk 0 rfl) (by rw [List.size_toArray, u8s_len, HIL.out]; kernel_rfl) (show (u8s z32).toArray.size = (u8s iv).toArray.size from by rw [List.size_toArray, List.size_toArray, u8s_len, u8s_len, z32_len, HIL.out]) (one_u8 _) ?_; intro w6b hg hgr; have HPn := Aside0.mk (HP.out.setB 0 rfl hgr hg); clear HP; have HP := HPn; clear HPn; clear hg hgr))
      (with_reducible refine (CJ.out _ (Kd.C_below HR.out HP.out.below)).mono ?_); rintro e w7 ⟨rfl, hb⟩; have HPn := Aside0.mk (HP.out.call hb); clear HP; have HP := HPn; clear HPn; clear hb
      go_wp2_with (first | ((with_reducible refine gate_dst (N := 16) rfl ?_); refine ev_alloc rfl 29 rfl (.agg (u8s z32).toArray) (by kernel_rfl) ?_; intro g_2 w8a hge hg hb; have HPn := Aside0.mk (HP.out.newB hb hg hge); clear HP; have HP := HPn; clear HPn; clear hge hg hb) | ((with_reducible refine gate_store (t := 29) (p := 16) rfl ?_); refine ev_store rfl 29 (.tmp 16) (.tmp 49) rfl rfl _ rfl (cells := (u8s iv).toArray) rfl (HP.out.blk 0 rfl) (by rw [List.size_toArray, u8s_len, HIL.out]; kernel_rfl) (show (u8s z32).toArray.size = (u8s iv).toArray.size from by rw [List.size_toArray, List.size_toArray, u8s_len, u8s_len, z32_len, HIL.out]) (one_u8 _) ?_; intro w8b hg hgr; have HPn := Aside0.mk (HP.out.setB 0 rfl hgr hg); clear HP; have HP := HPn; clear HPn; clear hg hgr))
      refine (retconkit_SameBytes.calls none 0 [] Ay cy [] true _ (Kd.R_reads' (Kd.R_nil (Kd.int .u8) 5 w8b 0 (fun _ => True))).2.2 (Nat.le_refl _) (Kd.R_reads' (HP.out.row 2 rfl)).2.2 (Kd.R_reads' (HP.out.row 2 rfl)).2.1 (same_f _)).mono ?_; rintro e w_ ⟨rfl, n1, rfl⟩; have HPn := Aside0.mk (HP.out.drewN n1); clear HP; have HP := HPn; clear HPn; (try simp only [World.drewN_drewN] at HP)
      go_wp2_with (first | ((with_reducible refine gate_dst (N := 60) rfl ?_); refine ev_load rfl 29 (.tmp 14) rfl g_1 rfl (HP.out.blk 1 rfl) Try.underlying29 rfl (by rw [List.size_toArray, u8s_len, HIL.out]; kernel_rfl) ?_) | ((with_reducible refine gate_dst (N := 61) rfl ?_); refine ev_load rfl 29 (.tmp 16) rfl g_2 rfl (HP.out.blk 0 rfl) Try.underlying29 rfl (by rw [List.size_toArray, u8s_len, HIL.out]; kernel_rfl) ?_))
      refine (CS.out _).mono ?_; rintro e w_ ⟨rfl, n2, rfl⟩; have HPn := Aside0.mk (HP.out.drewN n2); clear HP; have HP := HPn; clear HPn; (try simp only [World.drewN_drewN] at HP)
      go_wp2_with fail
      refine (CT.out _).mono ?_; rintro e w_ ⟨rfl, n3, rfl⟩; have HPn := Aside0.mk (HP.out.drewN n3); clear HP; have HP := HPn; clear HPn; (try simp only [World.drewN_drewN] at HP)
      go_wp2_with fail
      refine (c_over0 _ _).mono ?_; rintro e w9 ⟨rfl, hb⟩; have HPn := Aside0.mk (HP.out.call hb); clear HP; have HP := HPn; clear HPn; clear hb
      go_wp2_with fail
      (with_reducible refine (CK.out _ (HP.out.blk 3 rfl) (Kd.C_below HR.out HP.out.below)).mono ?_); rintro e wA ⟨rfl, hb⟩; have HPn := Aside0.mk (HP.out.call hb); clear HP; have HP := HPn; clear HPn; clear hb
      go_wp2_with fail
      refine (c_awake _).mono ?_; rintro e wB ⟨rfl, hb⟩; have HPn := Aside0.mk (HP.out.call hb); clear HP; have HP := HPn; clear HPn; clear hb
      go_wp2_with fail
      go_ret
      exact ⟨rfl, below_then HW.out HW.out.size HP.out.below⟩
  · obtain ⟨N, hN⟩ : ∃ N : Nat, 65537 = N := ⟨_, rfl⟩
    have hmk : (Instr.makeSlice 22 (.int .i64 65537) (.int .i64 65537)).run Try.prog w = .ok (.slice (some ⟨w.heap.size, 0, none⟩) N N) (w.alloc (.cells (u8s (List.replicate N 0)).toArray 5)) := by
      have h := run_make8 N (by omega) w
      rwa [show ((N : Nat) : Int) = 65537 by omega] at h
    have HNN := Aside0.mk hN
    clear hN
    go_enter Try.func3, Try.ntmps3
    go_wp2_with (first | ((with_reducible refine gate_dst (N := 24) rfl ?_); refine ev_make rfl 22 _ _ rfl rfl rfl hmk ?_))
    have hb0 := below_alloc (Below.refl w.heap.size w) (Obj.cells (u8s (List.replicate N 0)).toArray 5 (0, 0))
    have hg0 := blk_new w (Obj.cells (u8s (List.replicate N 0)).toArray 5 (0, 0))
    have hcr := C_blkW (k := .u8) (l := List.replicate N 0) hg0 (by rw [List.length_replicate]; have := HNN.out; omega)
    obtain ⟨w1, hw1⟩ : ∃ z, w.alloc (Obj.cells (u8s (List.replicate N 0)).toArray 5 (0, 0)) = z := ⟨_, rfl⟩
    rw [hw1] at hb0 hcr ⊢
    obtain ⟨g0, hg0_⟩ : ∃ z, w.heap.size = z := ⟨_, rfl⟩
    have hbz : Below w.heap.size w w1 := hb0
    rw [hg0_] at hcr ⊢
    obtain ⟨A, hA⟩ : ∃ z : Option Addr, some ⟨g0, 0, none⟩ = z := ⟨_, rfl⟩
    rw [hA] at hcr ⊢
    obtain ⟨b, hb⟩ : ∃ z, List.replicate N (0 : Int) = z := ⟨_, rfl⟩
    have hbl : N = b.length := by rw [← hb, List.length_replicate]
    have hbb : Bytes b := by rw [← hb]; intro x hx; rw [(List.mem_replicate.1 hx).2]; decide
    rw [hb] at hcr
    have hbn : b.length ≤ 70000 := by have := HNN.out; omega
    clear hmk hb hA hg0 hw1 hb0 HNN HR HC HB HP HW HN c1b
    subst hbl
    have HR := Aside0.mk hcr
    have HC := Aside0.mk (Nat.le_refl b.length)
    have HB := Aside0.mk hbb
    have HN := Aside0.mk hbn
    have HP := Aside0.mk (Hp.start w1)
    have HW := Aside0.mk hbz
    clear hcr hbb hbn hbz hg0_
    have hN := HN.out
    refine (c_lent A b.length b _ (Kd.C_below HR.out HP.out.below) HC.out (by omega)).mono ?_; rintro e w2 ⟨g9, rfl, hge, hg, hb⟩
    have HPn := Aside0.mk (HP.out.newB hb hg hge)
    clear HP hb hg hge
    have HP := HPn
    clear HPn
    have HLC := Aside0.mk (fun (w' : World) (h : w'.heap[g9]? = _) => C_lent h (by rw [lent_lenB]; omega) : ∀ w' : World, w'.heap[g9]? = some (.cells (u8s (b ++ lentT b.length)).toArray 5 (0, 0)) → Kd.C (Kd.int .u8) w' (some ⟨g9, 0, none⟩) b.length b)
    have HIL := Aside0.mk (idO_len a0 b)
    have heq : ∀ d w, (Op.equalIn (d + 2) 29 (.agg (u8s (idO a0 b)).toArray) (.agg (u8s (idO a0 b)).toArray)).run Try.prog w = .ok true w := fun d w => by rw [eq_id d w _ _ HIL.out HIL.out]; simp
    have CI := Aside0.mk (fun w hr => c_id a0 (some ⟨g9, 0, none⟩) (b.length + 3) b w hr (by omega) (by omega) HB.out)
    have CJ := Aside0.mk (fun w hr => c_rid a0 A b.length b w hr HC.out (by omega) HB.out)
    have CR := Aside0.mk (fun w hr => c_rpack a0 A b.length b w hr HC.out (by omega) HB.out)
    have CK := Aside0.mk (fun w hg hr => c_kept g9 A b.length b w hg hr HC.out (by omega))
    have CS := Aside0.mk (fun w => object_Sectors.calls 5 n (secO n) w (sectors_f n))
    have CT := Aside0.mk (fun w => retconref15_Sectors.calls 5 n (secO n) w (rsectors_f n))
    obtain ⟨iv, hiv⟩ : ∃ z, idO a0 b = z := ⟨_, rfl⟩
    obtain ⟨sn, hsn⟩ : ∃ z, secO n = z := ⟨_, rfl⟩
    rw [hiv] at HIL CI CJ
    rw [hiv] at heq
    rw [hsn] at CS CT
    clear hiv hsn hN
    go_wp2_with fail
    by_cases hk0 : chkO a0 b.length = 0
    · rw [show packR a0 b = packO a0 b from by unfold packR; rw [if_pos hk0]] at CR
      rw [hk0] at CI CJ CR
      have CP := Aside0.mk (c_pack8 a0 (some ⟨g9, 0, none⟩) (b.length + 3) b _ (HLC.out _ (HP.out.blk 0 rfl)) (by omega) (by have := HN.out; omega) HB.out hk0)
      obtain ⟨X, hX⟩ : ∃ z, packO a0 b = z := ⟨_, rfl⟩
      rw [hX] at CP CR
      clear hX hk0
      refine CP.out.mono ?_; rintro e w3 ⟨g10, l10, rfl, ht1, ht2, ht3, hge, hg, hb⟩
      have HX := Aside0.mk (And.intro ht1 (And.intro ht2 ht3))
      clear CP ht1 ht2 ht3
      have HPn := Aside0.mk (HP.out.newB hb hg hge)
      clear HP hb hg hge
      have HP := HPn
      clear HPn
      go_wp2_with fail
      refine (CR.out _ (Kd.C_below HR.out HP.out.below)).mono ?_; rintro e w4 ⟨vy, rfl, ho, hb⟩
      have HPn := Aside0.mk (HP.out.newR hb ho)
      clear HP ho hb
      have HP := HPn
      clear HPn
      obtain ⟨Ay, cy, rfl⟩ := Kd.R_slice (HP.out.row 0 rfl)
      go_wp2_with fail
      (with_reducible refine (CI.out _ (HLC.out _ (HP.out.blk 2 rfl))).mono ?_); rintro e w5 ⟨rfl, hb⟩; have HPn := Aside0.mk (HP.out.call hb); clear HP; have HP := HPn; clear HPn; clear hb
      go_wp2_with (first | ((with_reducible refine gate_dst (N := 14) rfl ?_); refine ev_alloc rfl 29 rfl (.agg (u8s z32).toArray) (by kernel_rfl) ?_; intro g_1 w6a hge hg hb; have HPn := Aside0.mk (HP.out.newB hb hg hge); clear HP; have HP := HPn; clear HPn; clear hge hg hb) | ((with_reducible refine gate_store (t := 29) (p := 14) rfl ?_); refine ev_store rfl 29 (.tmp 14) (.tmp 43) rfl rfl _ rfl (cells := (u8s iv).toArray) rfl (HP.out.blk 0 rfl) (by rw [List.size_toArray, u8s_len, HIL.out]; kernel_rfl) (show (u8s z32).toArray.size = (u8s iv).toArray.size from by rw [List.size_toArray, List.size_toArray, u8s_len, u8s_len, z32_len, HIL.out]) (one_u8 _) ?_; intro w6b hg hgr; have HPn := Aside0.mk (HP.out.setB 0 rfl hgr hg); clear HP; have HP := HPn; clear HPn; clear hg hgr))
      (with_reducible refine (CJ.out _ (Kd.C_below HR.out HP.out.below)).mono ?_); rintro e w7 ⟨rfl, hb⟩; have HPn := Aside0.mk (HP.out.call hb); clear HP; have HP := HPn; clear HPn; clear hb
      go_wp2_with (first | ((with_reducible refine gate_dst (N := 16) rfl ?_); refine ev_alloc rfl 29 rfl (.agg (u8s z32).toArray) (by kernel_rfl) ?_; intro g_2 w8a hge hg hb; have HPn := Aside0.mk (HP.out.newB hb hg hge); clear HP; have HP := HPn; clear HPn; clear hge hg hb) | ((with_reducible refine gate_store (t := 29) (p := 16) rfl ?_); refine ev_store rfl 29 (.tmp 16) (.tmp 49) rfl rfl _ rfl (cells := (u8s iv).toArray) rfl (HP.out.blk 0 rfl) (by rw [List.size_toArray, u8s_len, HIL.out]; kernel_rfl) (show (u8s z32).toArray.size = (u8s iv).toArray.size from by rw [List.size_toArray, List.size_toArray, u8s_len, u8s_len, z32_len, HIL.out]) (one_u8 _) ?_; intro w8b hg hgr; have HPn := Aside0.mk (HP.out.setB 0 rfl hgr hg); clear HP; have HP := HPn; clear HPn; clear hg hgr))
      refine (retconkit_SameBytes.calls (some ⟨g10, 0, none⟩) l10.length X Ay cy X true _ (C_pre (HP.out.blk 3 rfl) HX.out.2.2 HX.out.1 HX.out.2.1) HX.out.2.1 (Kd.R_reads' (HP.out.row 2 rfl)).2.2 (Kd.R_reads' (HP.out.row 2 rfl)).2.1 (same_f _)).mono ?_; rintro e w_ ⟨rfl, n1, rfl⟩; have HPn := Aside0.mk (HP.out.drewN n1); clear HP; have HP := HPn; clear HPn; (try simp only [World.drewN_drewN] at HP)
      go_wp2_with (first | ((with_reducible refine gate_dst (N := 60) rfl ?_); refine ev_load rfl 29 (.tmp 14) rfl g_1 rfl (HP.out.blk 1 rfl) Try.underlying29 rfl (by rw [List.size_toArray, u8s_len, HIL.out]; kernel_rfl) ?_) | ((with_reducible refine gate_dst (N := 61) rfl ?_); refine ev_load rfl 29 (.tmp 16) rfl g_2 rfl (HP.out.blk 0 rfl) Try.underlying29 rfl (by rw [List.size_toArray, u8s_len, HIL.out]; kernel_rfl) ?_))
      refine (CS.out _).mono ?_; rintro e w_ ⟨rfl, n2, rfl⟩; have HPn := Aside0.mk (HP.out.drewN n2); clear HP; have HP := HPn; clear HPn; (try simp only [World.drewN_drewN] at HP)
      go_wp2_with fail
      refine (CT.out _).mono ?_; rintro e w_ ⟨rfl, n3, rfl⟩; have HPn := Aside0.mk (HP.out.drewN n3); clear HP; have HP := HPn; clear HPn; (try simp only [World.drewN_drewN] at HP)
      go_wp2_with fail
      refine (c_overM HP.out 3 g10 l10 X.length rfl HX.out.2.1 HX.out.2.2).mono ?_; rintro e w9 ⟨rfl, l11, -, hp⟩
      clear HP
      have HP := Aside0.mk hp
      clear hp
      go_wp2_with fail
      (with_reducible refine (CK.out _ (HP.out.blk 4 rfl) (Kd.C_below HR.out HP.out.below)).mono ?_); rintro e wA ⟨rfl, hb⟩; have HPn := Aside0.mk (HP.out.call hb); clear HP; have HP := HPn; clear HPn; clear hb
      go_wp2_with fail
      refine (c_awake _).mono ?_; rintro e wB ⟨rfl, hb⟩; have HPn := Aside0.mk (HP.out.call hb); clear HP; have HP := HPn; clear HPn; clear hb
      go_wp2_with fail
      go_ret
      exact ⟨rfl, below_then HW.out HW.out.size HP.out.below⟩
    · rw [show packR a0 b = [] from by unfold packR; rw [if_neg hk0]] at CR
      have CP := Aside0.mk (c_pack0 a0 (some ⟨g9, 0, none⟩) (b.length + 3) b _ (HLC.out _ (HP.out.blk 0 rfl)) (by omega) (by have := HN.out; omega) HB.out hk0)
      obtain ⟨ck, hck⟩ : ∃ z, chkO a0 b.length = z := ⟨_, rfl⟩
      rw [hck] at CP CR CI CJ
      clear hck hk0
      refine CP.out.mono ?_; rintro e w3 ⟨rfl, hb⟩; have HPn := Aside0.mk (HP.out.call hb); clear HP; have HP := HPn; clear HPn; clear hb CP
      go_wp2_with fail
      refine (CR.out _ (Kd.C_below HR.out HP.out.below)).mono ?_; rintro e w4 ⟨vy, rfl, ho, hb⟩
      have HPn := Aside0.mk (HP.out.newR hb ho)
      clear HP ho hb
      have HP := HPn
      clear HPn
      obtain ⟨Ay, cy, rfl⟩ := Kd.R_slice (HP.out.row 0 rfl)
      go_wp2_with fail
      (with_reducible refine (CI.out _ (HLC.out _ (HP.out.blk 1 rfl))).mono ?_); rintro e w5 ⟨rfl, hb⟩; have HPn := Aside0.mk (HP.out.call hb); clear HP; have HP := HPn; clear HPn; clear hb
      go_wp2_with (first | ((with_reducible refine gate_dst (N := 14) rfl ?_); refine ev_alloc rfl 29 rfl (.agg (u8s z32).toArray) (by kernel_rfl) ?_; intro g_1 w6a hge hg hb; have HPn := Aside0.mk (HP.out.newB hb hg hge); clear HP; have HP := HPn; clear HPn; clear hge hg hb) | ((with_reducible refine gate_store (t := 29) (p := 14) rfl ?_); refine ev_store rfl 29 (.tmp 14) (.tmp 43) rfl rfl _ rfl (cells := (u8s iv).toArray) rfl (HP.out.blk 0 rfl) (by rw [List.size_toArray, u8s_len, HIL.out]; kernel_rfl) (show (u8s z32).toArray.size = (u8s iv).toArray.size from by rw [List.size_toArray, List.size_toArray, u8s_len, u8s_len, z32_len, HIL.out]) (one_u8 _) ?_; intro w6b hg hgr; have HPn := Aside0.mk (HP.out.setB 0 rfl hgr hg); clear HP; have HP := HPn; clear HPn; clear hg hgr))
      (with_reducible refine (CJ.out _ (Kd.C_below HR.out HP.out.below)).mono ?_); rintro e w7 ⟨rfl, hb⟩; have HPn := Aside0.mk (HP.out.call hb); clear HP; have HP := HPn; clear HPn; clear hb
      go_wp2_with (first | ((with_reducible refine gate_dst (N := 16) rfl ?_); refine ev_alloc rfl 29 rfl (.agg (u8s z32).toArray) (by kernel_rfl) ?_; intro g_2 w8a hge hg hb; have HPn := Aside0.mk (HP.out.newB hb hg hge); clear HP; have HP := HPn; clear HPn; clear hge hg hb) | ((with_reducible refine gate_store (t := 29) (p := 16) rfl ?_); refine ev_store rfl 29 (.tmp 16) (.tmp 49) rfl rfl _ rfl (cells := (u8s iv).toArray) rfl (HP.out.blk 0 rfl) (by rw [List.size_toArray, u8s_len, HIL.out]; kernel_rfl) (show (u8s z32).toArray.size = (u8s iv).toArray.size from by rw [List.size_toArray, List.size_toArray, u8s_len, u8s_len, z32_len, HIL.out]) (one_u8 _) ?_; intro w8b hg hgr; have HPn := Aside0.mk (HP.out.setB 0 rfl hgr hg); clear HP; have HP := HPn; clear HPn; clear hg hgr))
      refine (retconkit_SameBytes.calls none 0 [] Ay cy [] true _ (Kd.R_reads' (Kd.R_nil (Kd.int .u8) 5 w8b 0 (fun _ => True))).2.2 (Nat.le_refl _) (Kd.R_reads' (HP.out.row 2 rfl)).2.2 (Kd.R_reads' (HP.out.row 2 rfl)).2.1 (same_f _)).mono ?_; rintro e w_ ⟨rfl, n1, rfl⟩; have HPn := Aside0.mk (HP.out.drewN n1); clear HP; have HP := HPn; clear HPn; (try simp only [World.drewN_drewN] at HP)
      go_wp2_with (first | ((with_reducible refine gate_dst (N := 60) rfl ?_); refine ev_load rfl 29 (.tmp 14) rfl g_1 rfl (HP.out.blk 1 rfl) Try.underlying29 rfl (by rw [List.size_toArray, u8s_len, HIL.out]; kernel_rfl) ?_) | ((with_reducible refine gate_dst (N := 61) rfl ?_); refine ev_load rfl 29 (.tmp 16) rfl g_2 rfl (HP.out.blk 0 rfl) Try.underlying29 rfl (by rw [List.size_toArray, u8s_len, HIL.out]; kernel_rfl) ?_))
      refine (CS.out _).mono ?_; rintro e w_ ⟨rfl, n2, rfl⟩; have HPn := Aside0.mk (HP.out.drewN n2); clear HP; have HP := HPn; clear HPn; (try simp only [World.drewN_drewN] at HP)
      go_wp2_with fail
      refine (CT.out _).mono ?_; rintro e w_ ⟨rfl, n3, rfl⟩; have HPn := Aside0.mk (HP.out.drewN n3); clear HP; have HP := HPn; clear HPn; (try simp only [World.drewN_drewN] at HP)
      go_wp2_with fail
      refine (c_over0 _ _).mono ?_; rintro e w9 ⟨rfl, hb⟩; have HPn := Aside0.mk (HP.out.call hb); clear HP; have HP := HPn; clear HPn; clear hb
      go_wp2_with fail
      (with_reducible refine (CK.out _ (HP.out.blk 3 rfl) (Kd.C_below HR.out HP.out.below)).mono ?_); rintro e wA ⟨rfl, hb⟩; have HPn := Aside0.mk (HP.out.call hb); clear HP; have HP := HPn; clear HPn; clear hb
      go_wp2_with fail
      refine (c_awake _).mono ?_; rintro e wB ⟨rfl, hb⟩; have HPn := Aside0.mk (HP.out.call hb); clear HP; have HP := HPn; clear HPn; clear hb
      go_wp2_with fail
      go_ret
      exact ⟨rfl, below_then HW.out HW.out.size HP.out.below⟩
end Go.Proofs.Ytncmbkjjoamfjaa.H
