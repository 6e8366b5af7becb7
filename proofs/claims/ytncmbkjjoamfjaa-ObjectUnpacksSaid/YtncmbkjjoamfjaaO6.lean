import Derived.Test.YtncmbkjjoamfjaaO5
namespace Go.Proofs.Ytncmbkjjoamfjaa.H
open Go.RowKit Go.Proofs.Ytncmbkjjoamfjaa.XH Go.Proofs.YtncmbkjjoamfjaaW.PrintWords Go.Proofs.YtncmbkjjoamfjaaW.PrintLast Go.Proofs.YtncmbkjjoamfjaaW.PrintMore Go.Proofs.YtncmbkjjoamfjaaXe Go.Proofs.YtncmbkjjoamfjaaXs
set_option linter.unusedVariables false
set_option linter.unusedSimpArgs false
attribute [local go_sem ↓] Go.wp_at_zero Go.wp_at_succ
attribute [local go_sem] valUpon
attribute [local go_sem ↓ high] bn29
attribute [local go_sem high] BN29.z
set_option maxRecDepth 1000000 in
theorem sha_nil : sha [] = [227, 176, 196, 66, 152, 252, 28, 20, 154, 251, 244, 200, 153, 111, 185, 36, 39, 174, 65, 228, 100, 155, 147, 76, 164, 149, 153, 27, 120, 82, 184, 85] := by decide +kernel
theorem packR_len (k : Int) (b : List Int) (h : chkO k b.length = 0) : ((packR k b).length : Int) = secO (b.length : Int) * 64 ∧ b.length ≤ 65536 := by
  have hbl : b.length ≤ 65536 := by
    unfold chkO at h
    split at h
    · omega
    · split at h <;> omega
  refine ⟨?_, hbl⟩
  have hs : secO (b.length : Int) = ((b.length : Int) + 100) / 64 := by unfold secO; rw [if_neg (by omega)]
  unfold packR packO
  rw [if_pos h, List.length_append, List.length_append, headO_len, List.length_replicate]
  omega
/-- bytes that a constant text is converted to: the row is marked -/
def markW (w : World) (cs : Array Value) : World := (w.alloc (.cells cs 5)).freeze ⟨w.heap.size, cs.size, none⟩ 1
theorem run_mark (w : World) (cs : Array Value) (n : Nat) : (convert 22 22 (.slice (some ⟨w.heap.size, 0, none⟩) n n)).run Try.prog (w.alloc (.cells cs 5)) = .ok (.slice (some ⟨w.heap.size, 0, none⟩) n n) (markW w cs) := by
  have hsh : (w.alloc (.cells cs 5)).shape? w.heap.size = some (5, cs.size) := by
    simp [World.shape?, World.alloc, -World.alloc_eq]
  simp [convert, run_underlying Try.underlying22, run_underlying Try.underlying5, markStringish, hsh, markW, Result.andThen]
theorem markW_old (w : World) (cs : Array Value) (j : Nat) (hj : j < w.heap.size) : (markW w cs).heap[j]? = w.heap[j]? := by
  have h1 : w.heap.size ≠ j := by omega
  simp [markW, World.freeze, World.alloc, -World.alloc_eq, Array.getElem?_modify, Array.getElem?_push, h1, Ne.symm h1]
theorem markW_new (w : World) (cs : Array Value) : (markW w cs).heap[w.heap.size]? = some (.cells cs 5 (cs.size, cs.size + 1)) := by
  simp [markW, World.freeze, World.alloc, -World.alloc_eq]
  rw [Array.getElem_modify_self]
  simp
theorem markW_below (w : World) (cs : Array Value) : Below w.heap.size w (markW w cs) :=
  ⟨rfl, rfl, rfl, by simp [markW, World.freeze, World.alloc, -World.alloc_eq], fun k hk => markW_old w cs k hk⟩
theorem markW_C (w : World) (l : List Int) (h : l.length ≤ 9223372036854775807) : Kd.C (Kd.int .u8) (markW w (u8s l).toArray) (some ⟨w.heap.size, 0, none⟩) l.length l := by
  refine C_ints h fun j x hj => ?_
  rw [add_at, cell_of_row _ _ _ _ _ _ (markW_new w _)]
  simp [u8s, hj]
theorem Hp.head {w0 w : World} {Rs : List Res} (HP : Hp w0 w Rs) (i : Nat) {v : Value} {l r : List Int} (k : Nat) (hi : Rs[i]? = some (.row (Kd.int .u8) 5 w0.heap.size v l)) (h : retconlaw15_head.f k l = some r) :
    Calls Try.prog 22 #[v] w fun e w' => ∃ v', e = .returned v' ∧ Hp w0 w' (Rs.set i (.row (Kd.int .u8) 5 w0.heap.size v' r)) := by
  obtain ⟨F, hR, _, _, hup⟩ := HP.setR i hi
  refine (retconlaw15_head.calls k F v l r w0 w HP.below hR h).mono ?_
  rintro e w' ⟨v', rfl, ho, hb, hkp⟩
  exact ⟨v', rfl, hup w' v' r ho (fun k hk => hk) hb hkp⟩
theorem z63 : retconlaw15_head.f 70 [1] = some (1 :: List.replicate 63 0) := by kernel_rfl
theorem z64 : retconlaw15_head.f 70 [] = some (List.replicate 64 0) := by kernel_rfl
theorem z59 : retconlaw15_head.f 70 [1, 0, 0, 0, 28] = some ([1, 0, 0, 0, 28] ++ List.replicate 59 0) := by kernel_rfl
theorem bytes63 : Bytes ((1 : Int) :: List.replicate 63 0) := by unfold Bytes; decide
theorem bytes64 : Bytes (List.replicate 64 (0 : Int)) := by unfold Bytes; decide
theorem bytes59 : Bytes ([1, 0, 0, 0, 28] ++ List.replicate 59 0) := by unfold Bytes; decide
theorem unp63 : unpE (1 :: List.replicate 63 0) = 11 := by
  have hn : numO (1 :: List.replicate 63 0) = 0 := by decide +kernel
  have hb : bodyO (1 :: List.replicate 63 0) = [] := by decide +kernel
  unfold unpE
  rw [if_neg (by decide), if_neg (by decide), hn, if_neg (by decide), if_neg (by decide), if_neg]
  intro h
  have h2 := ((pieces _ bytes63 (by decide) (by rw [hn]; decide) (by rw [hn]; decide)).1 h).1
  rw [hb, sha_nil] at h2
  revert h2
  decide +kernel
theorem unp64 : unpE (List.replicate 64 0) = 2 := by
  unfold unpE
  rw [if_neg (by decide), if_pos (by decide)]
theorem unp59 : unpE ([1, 0, 0, 0, 28] ++ List.replicate 59 0) = 4 := by
  have hn : numO ([1, 0, 0, 0, 28] ++ List.replicate 59 0) = 28 := by decide +kernel
  unfold unpE
  rw [if_neg (by decide), if_neg (by decide), hn, if_neg (by decide), if_pos (by decide)]
theorem unp0 : unpE [] = 4 := by
  unfold unpE
  rw [if_pos (by decide)]
set_option maxHeartbeats 8000000 in
set_option maxRecDepth 100000 in
theorem c_fails (A : Option Addr) (c : Nat) (b : List Int) (want : Int) (w : World) (hr : Kd.C (Kd.int .u8) w A b.length b) (hc : b.length ≤ c) (hm : b.length ≤ 1000000) (hB : Bytes b) (h : unpE b = want) (h0 : want ≠ 0) :
    Calls Try.prog 21 #[.slice A b.length c, .int .i64 want] w fun e w' => e = .returned (.bool true) ∧ Below w.heap.size w w' := by
  have CU := Aside0.mk (c_unpack A c b w hr hc hm hB)
  have HK := Aside0.mk (show unpK b = 0 from by unfold unpK; rw [if_neg (by rw [h]; exact h0)])
  have HBB := Aside0.mk (show unpB b = [] from by unfold unpB; rw [if_neg (by rw [h]; exact h0)])
  have HE := Aside0.mk h
  have HP := Aside0.mk (Hp.start w)
  clear hr hc hm hB h h0
  go_enter Try.func21, Try.ntmps21
  go_wp2_with fail
  refine CU.out.mono ?_; rintro e w1 ⟨v, rfl, ho, hb⟩
  rw [HBB.out] at ho
  rw [HK.out, HE.out]
  have HPn := Aside0.mk (HP.out.newR hb ho)
  clear HP CU ho hb
  have HP := HPn
  clear HPn
  obtain ⟨A1, c1, rfl⟩ := Kd.R_slice (HP.out.row 0 rfl)
  go_wp2_with fail
  go_ret
  exact ⟨rfl, HP.out.below⟩
set_option maxHeartbeats 8000000 in
set_option maxRecDepth 100000 in
theorem c_awake (w : World) : Calls Try.prog 8 #[] w fun e w' => e = .returned (.bool true) ∧ Below w.heap.size w w' := by
  have HP := Aside0.mk (Hp.start w)
  obtain ⟨P1, hP1⟩ : ∃ z, packR 1 [97, 98] = z := ⟨_, rfl⟩
  have hl := (packR_len 1 [97, 98] (by decide)).1
  rw [hP1, show secO (([97, 98] : List Int).length : Int) = 1 from by decide] at hl
  have h5 : P1.take 5 = [1, 0, 0, 0, 2] := by rw [← hP1]; unfold packR packO headO lenB; rw [if_pos (by decide)]; rfl
  have d64 : ((P1.length : Int) == 64) = true := beq_iff_eq.2 (by omega)
  have q5 : (5 : Int) ≤ (P1.length : Int) := by omega
  have HP1 := Aside0.mk hP1
  have HL := Aside0.mk (show P1.length = 64 by omega)
  have H5 := Aside0.mk h5
  clear hP1 hl h5
  go_enter Try.func8, Try.ntmps8
  have hmk := run_mark w #[.int .u8 97, .int .u8 98] 2
  go_wp2_with (first | ((with_reducible refine gate_dst (N := 7) rfl ?_); refine ev_run rfl hmk ?_))
  clear hmk
  have HPn := Aside0.mk (HP.out.call (markW_below w #[.int .u8 97, .int .u8 98]))
  clear HP
  have HP := HPn
  clear HPn
  obtain ⟨g6, hg6⟩ : ∃ g, w.heap.size = g := ⟨_, rfl⟩
  obtain ⟨w6, hw6⟩ : ∃ z, markW w #[.int .u8 97, .int .u8 98] = z := ⟨_, rfl⟩
  have HC6 := Aside0.mk (show Kd.C (Kd.int .u8) (markW w #[.int .u8 97, .int .u8 98]) (some ⟨w.heap.size, 0, none⟩) 2 [97, 98] from markW_C w [97, 98] (by decide))
  rw [hg6, hw6] at HC6
  rw [hw6] at HP
  rw [hg6, hw6]
  clear hg6 hw6
  have CPK := Aside0.mk (c_pack 1 (some ⟨g6, 0, none⟩) 2 [97, 98] _ HC6.out (Nat.le_refl _) (by decide) (by unfold Bytes; decide))
  rw [show chkO 1 ([97, 98] : List Int).length = 0 from by decide] at CPK
  refine CPK.out.mono ?_; rintro e w1 ⟨v1, rfl, ho, hb⟩; rw [HP1.out] at ho
  have HPn := Aside0.mk (HP.out.newR hb ho)
  clear HP CPK ho hb
  have HP := HPn
  clear HPn
  obtain ⟨A1, c1, rfl⟩ := Kd.R_slice (HP.out.row 0 rfl)
  have q5c : (5 : Int) ≤ (c1 : Int) := by
    have h1 := (Kd.R_reads' (HP.out.row 0 rfl)).2.1
    have h2 := HL.out
    omega
  go_wp2_with fail
  have CPK := Aside0.mk (c_pack 10 none 0 [] w1 (Kd.R_reads' (Kd.R_nil (Kd.int .u8) 5 w1 0 (fun _ => True))).2.2 (Nat.le_refl _) (by decide) (by unfold Bytes; decide))
  rw [show chkO 10 ([] : List Int).length = 2 from by decide] at CPK
  refine CPK.out.mono ?_; rintro e w2 ⟨v2, rfl, ho, hb⟩
  have HPn := Aside0.mk (HP.out.newR hb ho)
  clear HP CPK ho hb
  have HP := HPn
  clear HPn
  obtain ⟨A2, c2, rfl⟩ := Kd.R_slice (HP.out.row 0 rfl)
  go_wp2_with (first | ((with_reducible refine gate_dst (N := 25) rfl ?_); refine ev_lit (d := Kd.int .u8) HP.out 5 (xs := [1, 0, 0, 0, 2]) (inner := ([1, 0, 0, 0, 2] : List Int).map (Value.int .u8)) rfl (N := 25) rfl ?hr25 (reps_ints _ _ _ _) (by simp) ?_; (case hr25 => first | (go_simp; done) | (go_simp; rfl)); intro v_l wl25 hpn; clear HP; have HP := Aside0.mk hpn; clear hpn; obtain ⟨A_l25, c_l25, rfl⟩ := Kd.R_slice (HP.out.row 0 rfl)))
  have h5_ := Kd.C_take (m := 5) (Kd.R_reads' (HP.out.row 2 rfl)).2.2 (by rw [HL.out]; decide)
  rw [H5.out] at h5_
  have H5_ := Aside0.mk h5_
  have H6_ := Aside0.mk (show 5 ≤ c1 from Nat.le_trans (by rw [HL.out]; decide) (Kd.R_reads' (HP.out.row 2 rfl)).2.1)
  clear h5_
  refine (retconkit_SameBytes.calls A1 c1 [1, 0, 0, 0, 2] A_l25 c_l25 [1, 0, 0, 0, 2] true _ H5_.out H6_.out (Kd.R_reads' (HP.out.row 0 rfl)).2.2 (Kd.R_reads' (HP.out.row 0 rfl)).2.1 (same_f _)).mono ?_; rintro e w_ ⟨rfl, n5, rfl⟩; have HPn := Aside0.mk (HP.out.drewN n5); clear HP; have HP := HPn; clear HPn; clear H5_ H6_
  go_wp2_with fail
  refine (object_Sectors.calls 5 28 2 _ (by rw [sectors_f]; decide)).mono ?_; rintro e w_ ⟨rfl, n6, rfl⟩; have HPn := Aside0.mk (HP.out.drewN n6); clear HP; have HP := HPn; clear HPn; (try simp only [World.drewN_drewN] at HP)
  go_wp2_with fail
  have hpn := HP.out.lit (d := Kd.int .u8) 5 (xs := [1]) (inner := [Value.int .u8 1]) (reps_ints _ _ _ [1]) (by decide)
  simp only [World.heap_drewN, List.length_cons, List.length_nil, Nat.zero_add] at hpn
  clear HP
  have HP := Aside0.mk hpn
  clear hpn
  refine (Hp.head HP.out 0 70 rfl z63).mono ?_; rintro e w8 ⟨v_h, rfl, hp⟩
  clear HP
  have HP := Aside0.mk hp
  clear hp
  obtain ⟨A_h, c_h, rfl⟩ := Kd.R_slice (HP.out.row 0 rfl)
  go_wp2_with fail
  refine (c_fails A_h c_h (1 :: List.replicate 63 0) 11 _ (Kd.R_reads' (HP.out.row 0 rfl)).2.2 (Kd.R_reads' (HP.out.row 0 rfl)).2.1 (by decide) bytes63 unp63 (by decide)).mono ?_; rintro e w9 ⟨rfl, hb⟩; have HPn := Aside0.mk (HP.out.call hb); clear HP; have HP := HPn; clear HPn; clear hb
  go_wp2_with fail
  go_ret
  exact ⟨rfl, HP.out.below⟩
set_option maxHeartbeats 8000000 in
set_option maxRecDepth 100000 in
theorem objectKnown_law (w : World) : Calls Try.prog 5 #[] w fun e w' => e = .returned (.bool true) ∧ Below w.heap.size w w' := by
  have HP := Aside0.mk (Hp.start w)
  go_enter Try.func5, Try.ntmps5
  go_wp2_with fail
  have CPK := Aside0.mk (c_pack 0 none 0 [] w (Kd.R_reads' (Kd.R_nil (Kd.int .u8) 5 w 0 (fun _ => True))).2.2 (Nat.le_refl _) (by decide) (by unfold Bytes; decide))
  rw [show chkO 0 ([] : List Int).length = 2 from by decide] at CPK
  refine CPK.out.mono ?_; rintro e w2 ⟨v2, rfl, ho, hb⟩
  have HPn := Aside0.mk (HP.out.newR hb ho)
  clear HP CPK ho hb
  have HP := HPn
  clear HPn
  obtain ⟨A2, c2, rfl⟩ := Kd.R_slice (HP.out.row 0 rfl)
  go_wp2_with fail
  refine (object_Sectors.calls 5 0 1 _ (by rw [sectors_f]; decide)).mono ?_; rintro e w_ ⟨rfl, n1, rfl⟩; have HPn := Aside0.mk (HP.out.drewN n1); clear HP; have HP := HPn; clear HPn; (try simp only [World.drewN_drewN] at HP)
  go_wp2_with fail
  refine (object_Sectors.calls 5 27 1 _ (by rw [sectors_f]; decide)).mono ?_; rintro e w_ ⟨rfl, n2, rfl⟩; have HPn := Aside0.mk (HP.out.drewN n2); clear HP; have HP := HPn; clear HPn; (try simp only [World.drewN_drewN] at HP)
  go_wp2_with fail
  refine (object_Sectors.calls 5 65536 1025 _ (by rw [sectors_f]; decide)).mono ?_; rintro e w_ ⟨rfl, n3, rfl⟩; have HPn := Aside0.mk (HP.out.drewN n3); clear HP; have HP := HPn; clear HPn; (try simp only [World.drewN_drewN] at HP)
  go_wp2_with fail
  refine (object_Sectors.calls 5 (-1) 0 _ (by rw [sectors_f]; decide)).mono ?_; rintro e w_ ⟨rfl, n4, rfl⟩; have HPn := Aside0.mk (HP.out.drewN n4); clear HP; have HP := HPn; clear HPn; (try simp only [World.drewN_drewN] at HP)
  go_wp2_with fail
  refine (c_awake _).mono ?_; rintro e w3 ⟨rfl, hb⟩; have HPn := Aside0.mk (HP.out.call hb); clear HP; have HP := HPn; clear HPn; clear hb
  go_wp2_with fail
  refine (c_fails none 0 [] 4 _ (Kd.R_reads' (Kd.R_nil (Kd.int .u8) 5 w3 0 (fun _ => True))).2.2 (Nat.le_refl _) (by decide) (by unfold Bytes; decide) unp0 (by decide)).mono ?_; rintro e w4 ⟨rfl, hb⟩; have HPn := Aside0.mk (HP.out.call hb); clear HP; have HP := HPn; clear HPn; clear hb
  have HPn := Aside0.mk (HP.out.newR (Below.refl _ _) (Kd.R_nil (Kd.int .u8) 5 w4 w4.heap.size (fun _ => True)))
  clear HP
  have HP := HPn
  clear HPn
  go_wp2_with fail
  refine (Hp.head HP.out 0 70 rfl z64).mono ?_; rintro e w5 ⟨v_h, rfl, hp⟩
  clear HP
  have HP := Aside0.mk hp
  clear hp
  obtain ⟨A_h, c_h, rfl⟩ := Kd.R_slice (HP.out.row 0 rfl)
  go_wp2_with fail
  refine (c_fails A_h c_h (List.replicate 64 0) 2 _ (Kd.R_reads' (HP.out.row 0 rfl)).2.2 (Kd.R_reads' (HP.out.row 0 rfl)).2.1 (by decide) bytes64 unp64 (by decide)).mono ?_; rintro e w6 ⟨rfl, hb⟩; have HPn := Aside0.mk (HP.out.call hb); clear HP; have HP := HPn; clear HPn; clear hb
  go_wp2_with (first | ((with_reducible refine gate_dst (N := 38) rfl ?_); refine ev_lit (d := Kd.int .u8) HP.out 5 (xs := [1, 0, 0, 0, 28]) (inner := ([1, 0, 0, 0, 28] : List Int).map (Value.int .u8)) rfl (N := 38) rfl ?hr38 (reps_ints _ _ _ _) (by simp) ?_; (case hr38 => first | (go_simp; done) | (go_simp; rfl)); intro v_l wl38 hpn; clear HP; have HP := Aside0.mk hpn; clear hpn; obtain ⟨A_l38, c_l38, rfl⟩ := Kd.R_slice (HP.out.row 0 rfl)))
  refine (Hp.head HP.out 0 70 rfl z59).mono ?_; rintro e w7 ⟨v_h, rfl, hp⟩
  clear HP
  have HP := Aside0.mk hp
  clear hp
  obtain ⟨A_h, c_h, rfl⟩ := Kd.R_slice (HP.out.row 0 rfl)
  go_wp2_with fail
  refine (c_fails A_h c_h ([1, 0, 0, 0, 28] ++ List.replicate 59 0) 4 _ (Kd.R_reads' (HP.out.row 0 rfl)).2.2 (Kd.R_reads' (HP.out.row 0 rfl)).2.1 (by decide) bytes59 unp59 (by decide)).mono ?_; rintro e w8 ⟨rfl, hb⟩; have HPn := Aside0.mk (HP.out.call hb); clear HP; have HP := HPn; clear HPn; clear hb
  go_wp2_with fail
  go_ret
  exact ⟨rfl, HP.out.below⟩
end Go.Proofs.Ytncmbkjjoamfjaa.H
