import Derived.Test.YtejfocliopbocaaD13
namespace Go.Proofs.Ytejfocliopbocaa.D
open Go.RowKit Go.Proofs.Ytejfocliopbocaa.XD Go.Proofs.YtejfocliopbocaaW.PrintWords Go.Proofs.YtejfocliopbocaaW.PrintLast Go.Proofs.YtejfocliopbocaaW.PrintMore Go.Proofs.YtejfocliopbocaaXe Go.Proofs.YtejfocliopbocaaXs
set_option linter.unusedVariables false
set_option linter.unusedSimpArgs false
attribute [local go_sem ↓] Go.wp_at_zero Go.wp_at_succ
theorem c_upD {w0 w : World} {Rs : List Res} (HP : Hp w0 w Rs) (i g : Nat) (S : DS) (hi : Rs[i]? = some (rDisk w0.heap.size g S)) :
    Calls Try.prog 16 #[.pointer (some ⟨g, 0, none⟩)] w fun e w' => e = .returned (.bool (!S.out)) ∧ w' = w := by
  obtain ⟨⟨gm, m, clock, v⟩, hm, HP0⟩ := HP.openE i hi
  exact c_up g S.steps S.fuse S.out S.many gm v w (HP0.blk 0 rfl)
theorem c_lenD {w0 w : World} {Rs : List Res} (HP : Hp w0 w Rs) (i g : Nat) (S : DS) (hi : Rs[i]? = some (rDisk w0.heap.size g S)) :
    Calls Try.prog 27 #[.pointer (some ⟨g, 0, none⟩)] w fun e w' => e = .returned (.int .i64 S.many) ∧ w' = w := by
  obtain ⟨⟨gm, m, clock, v⟩, hm, HP0⟩ := HP.openE i hi
  exact c_len g S.steps S.fuse S.out S.many gm v w (HP0.blk 0 rfl)
theorem c_stepsD {w0 w : World} {Rs : List Res} (HP : Hp w0 w Rs) (i g : Nat) (S : DS) (hi : Rs[i]? = some (rDisk w0.heap.size g S)) :
    Calls Try.prog 28 #[.pointer (some ⟨g, 0, none⟩)] w fun e w' => e = .returned (.int .i64 S.steps) ∧ w' = w := by
  obtain ⟨⟨gm, m, clock, v⟩, hm, HP0⟩ := HP.openE i hi
  exact c_steps g S.steps S.fuse S.out S.many gm v w (HP0.blk 0 rfl)
theorem c_looseD {w0 w : World} {Rs : List Res} (HP : Hp w0 w Rs) (i g : Nat) (S : DS) (hi : Rs[i]? = some (rDisk w0.heap.size g S)) :
    Calls Try.prog 22 #[.pointer (some ⟨g, 0, none⟩)] w fun e w' => e = .returned (.int .i64 (S.l.length : Int)) ∧ w' = w := by
  obtain ⟨⟨gm, m, clock, v⟩, hm, HP0⟩ := HP.openE i hi
  obtain ⟨A, c, hv⟩ := Kd.R_slice (HP0.row 2 (d := KL) (xs := S.l) rfl)
  have hv2 : v = .slice A S.l.length c := hv
  subst hv2
  exact c_loose g S.steps S.fuse S.out S.many gm A S.l.length c w (HP0.blk 0 rfl)
def fuseE (n : Int) : Int := if n < 0 then 2 else 0
def fuseS (S : DS) (n : Int) : DS := if n < 0 then S else { S with fuse := n }
theorem c_fuseD {w0 w : World} {Rs : List Res} (HP : Hp w0 w Rs) (i g : Nat) (S : DS) (hi : Rs[i]? = some (rDisk w0.heap.size g S)) (n : Int) :
    Calls Try.prog 15 #[.pointer (some ⟨g, 0, none⟩), .int .i64 n] w fun e w' => e = .returned (.int .i64 (fuseE n)) ∧ Hp w0 w' (Rs.set i (rDisk w0.heap.size g (fuseS S n))) := by
  obtain ⟨⟨gm, m, clock, v⟩, hm, HP0⟩ := HP.openE i hi
  have HP1 : Hp w0 w (.blk g (.cells (dC S.steps S.fuse S.out true S.many gm v).toArray 63 (0, 0)) :: .blk gm (.map (rawM m) clock) :: .row KL 70 w0.heap.size v S.l :: Rs.set i .none) := HP0
  have hil : i < Rs.length := (List.getElem?_eq_some_iff.1 hi).1
  have HPn := Aside0.mk HP1
  have HM := Aside0.mk hm
  have HI := Aside0.mk hil
  clear HP HP0 HP1 hm hil
  have HP := HPn
  clear HPn
  refine (c_fuse HP.out 0 g S.steps S.fuse S.out S.many gm v n rfl).mono ?_
  rintro e w1 ⟨rfl, hpn⟩
  unfold fuseE fuseS
  by_cases h : n < 0
  · rw [if_pos h] at hpn ⊢
    rw [if_pos h]
    exact ⟨rfl, Hp.closeD S HM.out HI.out hpn⟩
  · rw [if_neg h] at hpn ⊢
    rw [if_neg h]
    exact ⟨rfl, Hp.closeD { S with fuse := n } HM.out HI.out hpn⟩
theorem Rd_nil {α : Type} {d : Kd α} {w0 : World} {Rs : List Res} {i : Nat} {A : Option Addr} : Rd d w0 Rs i A 0 [] := fun _ _ _ => ⟨rfl, by decide, fun h => absurd h (by decide)⟩
theorem C_nil {α : Type} {d : Kd α} {w : World} {A : Option Addr} : d.C w A 0 [] := ⟨rfl, by decide, fun h => absurd h (by decide)⟩
theorem mid8 (A : Option Addr) (c : Nat) (b : List Int) (lo hi : Nat) (h : lo ≤ hi) (h2 : hi ≤ b.length) (hc : b.length ≤ c) (hl hh : Int) (el : hl = (lo : Int)) (eh : hh = (hi : Int)) : ∃ A' m, (b.take hi).drop lo = m ∧ m.length = hi - lo ∧ m.length ≤ c - lo ∧ (∀ w : World, (Instr.slice 27 (.slice A b.length c) (some (.int .i64 hl)) (some (.int .i64 hh)) none).run Try.prog w = .ok (.slice A' m.length (c - lo)) w) ∧ (∀ w : World, Kd.C (Kd.int .u8) w A b.length b → Kd.C (Kd.int .u8) w A' m.length m) := by
  obtain ⟨i, hi1, _, hs, _⟩ := info_parts info5
  subst el eh
  have hm : ((b.take hi).drop lo).length = hi - lo := by rw [List.length_drop, List.length_take]; omega
  refine ⟨if c = lo then A else A.map (·.add (lo * 1)), _, rfl, hm, by rw [hm]; omega, fun w => ?_, fun w hC => Kd.C_mid hC h h2 hc⟩
  rw [cut_mid 27 5 .i64 .i64 Try.underlying27 hi1 1 hs A b.length c lo hi (by omega) (by omega) (by omega) hc w, hm]
  simp only [Int.toNat_natCast]
theorem from8 (A : Option Addr) (c : Nat) (b : List Int) (lo : Nat) (h : lo ≤ b.length) (hc : b.length ≤ c) (hl : Int) (el : hl = (lo : Int)) : ∃ A' m, b.drop lo = m ∧ m.length = b.length - lo ∧ m.length ≤ c - lo ∧ (∀ w : World, (Instr.slice 27 (.slice A b.length c) (some (.int .i64 hl)) none none).run Try.prog w = .ok (.slice A' m.length (c - lo)) w) ∧ (∀ w : World, Kd.C (Kd.int .u8) w A b.length b → Kd.C (Kd.int .u8) w A' m.length m) := by
  obtain ⟨i, hi1, _, hs, _⟩ := info_parts info5
  subst el
  have hm : (b.drop lo).length = b.length - lo := List.length_drop
  refine ⟨if c = lo then A else A.map (·.add (lo * 1)), _, rfl, hm, by rw [hm]; omega, fun w => ?_, fun w hC => Kd.C_drop hC h hc⟩
  rw [cut_from 27 5 .i64 Try.underlying27 hi1 1 hs A b.length c lo (by omega) (by omega) w, hm]
  simp only [Int.toNat_natCast]
theorem to8 (A : Option Addr) (c : Nat) (b : List Int) (hi : Nat) (h2 : hi ≤ b.length) (hc : b.length ≤ c) (hh : Int) (eh : hh = (hi : Int)) (w : World) : (Instr.slice 27 (.slice A b.length c) none (some (.int .i64 hh)) none).run Try.prog w = .ok (.slice A hi c) w := by
  obtain ⟨i, hi1, _, hs, _⟩ := info_parts info5
  subst eh
  rw [cut_to 27 5 .i64 Try.underlying27 hi1 A b.length c hi (by omega) (by omega) hc w]
  simp only [Int.toNat_natCast]
abbrev rp (c : Int) : List Int := List.replicate 64 c
def newS2 : DS := newS 2
def stw1 : DS := writeS newS2 0 (rp 1)
def stw2 : DS := { stw1 with fuse := -1, out := false, at' := crashG [] (DS.l stw1) 0 0 (DS.at' stw1), l := [] }
def stw3 : DS := writeS stw2 2 (rp 1)
set_option maxHeartbeats 8000000 in
set_option maxRecDepth 100000 in
theorem c_awake (w : World) : Calls Try.prog 17 #[] w fun e w' => e = .returned (.bool true) ∧ Below w.heap.size w w' := by
  have HP := Aside0.mk (Hp.start w)
  go_enter Try.func17, Try.ntmps17
  go_wp2_with fail
  refine (c_made HP.out).mono ?_; rintro e wl1 ⟨g_d, rfl, hpn⟩
  clear HP
  have HP := Aside0.mk hpn
  clear hpn
  go_wp2_with fail
  refine (retconlaw12_of.calls 65 1 _ _ (of_f 1)).mono ?_; rintro e wl2 ⟨v_r1, rfl, ho, hb⟩
  have HPn := Aside0.mk (HP.out.newR hb ho)
  clear HP
  have HP := HPn
  clear HPn
  clear ho hb
  obtain ⟨A_r1, c_r1, rfl⟩ := Kd.R_slice (HP.out.row 0 rfl)
  go_wp2_with fail
  have CC := Aside0.mk (c_write HP.out 1 g_d newS2 rfl 0 A_r1 c_r1 (rp 1) (by decide) (Rd.row 0 (by decide) rfl) (by decide +kernel))
  rw [show writeE newS2 0 (rp 1) = 0 from by decide +kernel] at CC
  refine CC.out.mono ?_; rintro e wl3 ⟨rfl, hpn⟩
  clear CC
  clear HP
  have HP := Aside0.mk hpn
  clear hpn
  go_wp2_with fail
  refine (retconlaw12_of.calls 65 1 _ _ (of_f 1)).mono ?_; rintro e wl4 ⟨v_r2, rfl, ho, hb⟩
  have HPn := Aside0.mk (HP.out.newR hb ho)
  clear HP
  have HP := HPn
  clear HPn
  clear ho hb
  obtain ⟨A_r2, c_r2, rfl⟩ := Kd.R_slice (HP.out.row 0 rfl)
  go_wp2_with fail
  refine (c_reads HP.out 2 g_d stw1 rfl 0 (by decide +kernel) (by decide +kernel) A_r2 c_r2 64 (rp 1) (by decide) (Kd.R_reads' (HP.out.row 0 rfl)).2.1 (fun w h => (Kd.R_reads' (h.row 0 rfl)).2.2) true (by kernel_rfl)).mono ?_; rintro e wl5 ⟨rfl, hpn⟩
  clear HP
  have HP := Aside0.mk hpn
  clear hpn
  go_wp2_with fail
  refine (c_crash HP.out 2 g_d stw1 rfl none 0 [] (by decide) Rd_nil 0 (by decide) (by decide +kernel)).mono ?_; rintro e wl6 ⟨rfl, hpn⟩
  clear HP
  have HP := Aside0.mk hpn
  clear hpn
  go_wp2_with fail
  refine (retconlaw12_of.calls 65 0 _ _ (of_f 0)).mono ?_; rintro e wl7 ⟨v_r3, rfl, ho, hb⟩
  have HPn := Aside0.mk (HP.out.newR hb ho)
  clear HP
  have HP := HPn
  clear HPn
  clear ho hb
  obtain ⟨A_r3, c_r3, rfl⟩ := Kd.R_slice (HP.out.row 0 rfl)
  go_wp2_with fail
  refine (c_reads HP.out 3 g_d stw2 rfl 0 (by decide +kernel) (by decide +kernel) A_r3 c_r3 64 (rp 0) (by decide) (Kd.R_reads' (HP.out.row 0 rfl)).2.1 (fun w h => (Kd.R_reads' (h.row 0 rfl)).2.2) true (by kernel_rfl)).mono ?_; rintro e wl8 ⟨rfl, hpn⟩
  clear HP
  have HP := Aside0.mk hpn
  clear hpn
  go_wp2_with fail
  refine (retconlaw12_of.calls 65 1 _ _ (of_f 1)).mono ?_; rintro e wl9 ⟨v_r4, rfl, ho, hb⟩
  have HPn := Aside0.mk (HP.out.newR hb ho)
  clear HP
  have HP := HPn
  clear HPn
  clear ho hb
  obtain ⟨A_r4, c_r4, rfl⟩ := Kd.R_slice (HP.out.row 0 rfl)
  go_wp2_with fail
  have CC := Aside0.mk (c_write HP.out 4 g_d stw2 rfl 2 A_r4 c_r4 (rp 1) (by decide) (Rd.row 0 (by decide) rfl) (by decide +kernel))
  rw [show writeE stw2 2 (rp 1) = 5 from by decide +kernel] at CC
  refine CC.out.mono ?_; rintro e wl10 ⟨rfl, hpn⟩
  clear CC
  clear HP
  have HP := Aside0.mk hpn
  clear hpn
  go_wp2_with fail
  go_ret
  exact ⟨rfl, HP.out.below⟩
def sta1 : DS := writeS newS2 0 (rp 1)
def sta2 : DS := flushS sta1
def sta3 : DS := writeS sta2 0 (rp 2)
def sta4 : DS := { sta3 with fuse := -1, out := false, at' := crashG [] (DS.l sta3) 0 3 (DS.at' sta3), l := [] }
def stb5 : DS := writeS newS2 0 (rp 1)
def stb6 : DS := writeS stb5 1 (rp 2)
def stb7 : DS := { stb6 with fuse := -1, out := false, at' := crashG [false, true] (DS.l stb6) 0 0 (DS.at' stb6), l := [] }
def stc8 : DS := fuseS newS2 (1)
def stc9 : DS := writeS stc8 0 (rp 1)
def stc10 : DS := flushS stc9
def stc11 : DS := writeS stc10 0 (rp 1)
def stc12 : DS := { stc11 with fuse := -1, out := false, at' := crashG [true] (DS.l stc11) 0 0 (DS.at' stc11), l := [] }
def sta13 : DS := writeS sta4 0 []
def sta14 : DS := fuseS sta13 (-1)
set_option maxHeartbeats 8000000 in
set_option maxRecDepth 100000 in
theorem diskKnown_c (w : World) : Calls Try.prog 3 #[] w fun e w' => e = .returned (.bool true) ∧ Below w.heap.size w w' := by
  have HP := Aside0.mk (Hp.start w)
  go_enter Try.func3, Try.ntmps3
  go_wp2_with fail
  refine (c_made HP.out).mono ?_; rintro e wl1 ⟨g_a, rfl, hpn⟩
  clear HP
  have HP := Aside0.mk hpn
  clear hpn
  go_wp2_with fail
  refine (c_made HP.out).mono ?_; rintro e wl2 ⟨g_b, rfl, hpn⟩
  clear HP
  have HP := Aside0.mk hpn
  clear hpn
  go_wp2_with fail
  refine (c_made HP.out).mono ?_; rintro e wl3 ⟨g_c, rfl, hpn⟩
  clear HP
  have HP := Aside0.mk hpn
  clear hpn
  go_wp2_with fail
  refine (c_newE (-1) (by decide) _).mono ?_; rintro e wl4 ⟨rfl, rfl⟩
  go_wp2_with (first | ((with_reducible refine gate_dst (N := 31) rfl ?_); refine ev_lit (d := Kd.int .u8) HP.out 5 rfl (xs := ([] : List Int)) (inner := []) (N := 31) rfl ?hr31 (Reps.none _ _) (by first | decide | simp) ?_; (case hr31 => first | (go_simp; done) | (go_simp; rfl)); intro v_l0 wq hpn; clear HP; have HP := Aside0.mk hpn; clear hpn; obtain ⟨A_l0, c_l0, rfl⟩ := Kd.R_slice (HP.out.row 0 rfl)))
  refine (retconlaw12_of.calls 65 2 _ _ (of_f 2)).mono ?_; rintro e wl5 ⟨v_ra, rfl, ho, hb⟩
  have HPn := Aside0.mk (HP.out.newR hb ho)
  clear HP
  have HP := HPn
  clear HPn
  clear ho hb
  obtain ⟨A_ra, c_ra, rfl⟩ := Kd.R_slice (HP.out.row 0 rfl)
  have hct := to8 A_ra c_ra (rp 2) 3 (by decide) (Kd.R_reads' (HP.out.row 0 rfl)).2.1 3 rfl
  simp only [List.length_replicate] at hct
  go_wp2_with (first | ((with_reducible refine gate_dst (N := 34) rfl ?_); refine ev_append (plain_int .u8) HP.out 1 rfl (.tmp 31) (.tmp 33) 27 5 (.int .u8 0) 1 rfl Try.underlying27 info5 rfl (by decide) (by decide) (.slice A_l0 0 c_l0) [] ((rp 2).take 3) A_ra 3 c_ra rfl rfl rfl (Kd.C_take (m := 3) (Kd.R_reads' (HP.out.row 0 rfl)).2.2 (by decide)) (by decide) ?_; intro v_l1 wq hpn; clear HP; have HP := Aside0.mk hpn; clear hpn; obtain ⟨A_l1, c_l1, rfl⟩ := Kd.R_slice (HP.out.row 1 rfl)))
  clear hct
  refine (retconlaw12_of.calls 65 1 _ _ (of_f 1)).mono ?_; rintro e wl6 ⟨v_rb, rfl, ho, hb⟩
  have HPn := Aside0.mk (HP.out.newR hb ho)
  clear HP
  have HP := HPn
  clear HPn
  clear ho hb
  obtain ⟨A_rb, c_rb, rfl⟩ := Kd.R_slice (HP.out.row 0 rfl)
  obtain ⟨A3, m3, hm3, hl3, hlc3, hrun3, hC3⟩ := from8 A_rb c_rb (rp 1) 3 (by decide) (Kd.R_reads' (HP.out.row 0 rfl)).2.1 3 rfl
  subst hm3
  simp only [List.length_replicate, List.length_drop, Nat.reduceSub] at hrun3
  clear hl3 hlc3
  have HC3 := Aside0.mk hC3
  clear hC3
  go_wp2_with (first | ((with_reducible refine gate_dst (N := 37) rfl ?_); refine ev_append (plain_int .u8) HP.out 2 rfl (.tmp 34) (.tmp 36) 27 5 (.int .u8 0) 1 rfl Try.underlying27 info5 rfl (by decide) (by decide) (.slice A_l1 3 c_l1) ((rp 2).take 3) ((rp 1).drop 3) A3 61 (c_rb - 3) rfl rfl rfl (HC3.out _ (Kd.R_reads' (HP.out.row 0 rfl)).2.2) (by decide) ?_; intro v_t wq hpn; clear HP; have HP := Aside0.mk hpn; clear hpn; obtain ⟨A_t, c_t, rfl⟩ := Kd.R_slice (HP.out.row 2 rfl)))
  clear hrun3 HC3
  refine (retconlaw12_of.calls 65 1 _ _ (of_f 1)).mono ?_; rintro e wl7 ⟨v_q1, rfl, ho, hb⟩
  have HPn := Aside0.mk (HP.out.newR hb ho)
  clear HP
  have HP := HPn
  clear HPn
  clear ho hb
  obtain ⟨A_q1, c_q1, rfl⟩ := Kd.R_slice (HP.out.row 0 rfl)
  go_wp2_with fail
  have CC := Aside0.mk (c_write HP.out 6 g_a newS2 rfl 0 A_q1 c_q1 (rp 1) (by decide) (Rd.row 0 (by decide) rfl) (by decide +kernel))
  rw [show writeE newS2 0 (rp 1) = 0 from by decide +kernel] at CC
  refine CC.out.mono ?_; rintro e wl8 ⟨rfl, hpn⟩
  clear CC
  clear HP
  have HP := Aside0.mk hpn
  clear hpn
  go_wp2_with fail
  have CC := Aside0.mk (c_flush HP.out 6 g_a sta1 rfl (by decide +kernel))
  rw [show flushE sta1 = 0 from by decide +kernel] at CC
  refine CC.out.mono ?_; rintro e wl9 ⟨rfl, hpn⟩
  clear CC
  clear HP
  have HP := Aside0.mk hpn
  clear hpn
  go_wp2_with fail
  refine (retconlaw12_of.calls 65 2 _ _ (of_f 2)).mono ?_; rintro e wl10 ⟨v_q2, rfl, ho, hb⟩
  have HPn := Aside0.mk (HP.out.newR hb ho)
  clear HP
  have HP := HPn
  clear HPn
  clear ho hb
  obtain ⟨A_q2, c_q2, rfl⟩ := Kd.R_slice (HP.out.row 0 rfl)
  go_wp2_with fail
  have CC := Aside0.mk (c_write HP.out 7 g_a sta2 rfl 0 A_q2 c_q2 (rp 2) (by decide) (Rd.row 0 (by decide) rfl) (by decide +kernel))
  rw [show writeE sta2 0 (rp 2) = 0 from by decide +kernel] at CC
  refine CC.out.mono ?_; rintro e wl11 ⟨rfl, hpn⟩
  clear CC
  clear HP
  have HP := Aside0.mk hpn
  clear hpn
  go_wp2_with fail
  refine (c_crash HP.out 7 g_a sta3 rfl none 0 [] (by decide) Rd_nil 3 (by decide) (by decide +kernel)).mono ?_; rintro e wl12 ⟨rfl, hpn⟩
  clear HP
  have HP := Aside0.mk hpn
  clear hpn
  go_wp2_with fail
  refine (c_reads HP.out 7 g_a sta4 rfl 0 (by decide +kernel) (by decide +kernel) A_t c_t 64 ((rp 2).take 3 ++ (rp 1).drop 3) (by decide) (Kd.R_reads' (HP.out.row 4 rfl)).2.1 (fun w h => (Kd.R_reads' (h.row 4 rfl)).2.2) true (by kernel_rfl)).mono ?_; rintro e wl13 ⟨rfl, hpn⟩
  clear HP
  have HP := Aside0.mk hpn
  clear hpn
  go_wp2_with fail
  refine (retconlaw12_of.calls 65 1 _ _ (of_f 1)).mono ?_; rintro e wl14 ⟨v_q3, rfl, ho, hb⟩
  have HPn := Aside0.mk (HP.out.newR hb ho)
  clear HP
  have HP := HPn
  clear HPn
  clear ho hb
  obtain ⟨A_q3, c_q3, rfl⟩ := Kd.R_slice (HP.out.row 0 rfl)
  go_wp2_with fail
  have CC := Aside0.mk (c_write HP.out 7 g_b newS2 rfl 0 A_q3 c_q3 (rp 1) (by decide) (Rd.row 0 (by decide) rfl) (by decide +kernel))
  rw [show writeE newS2 0 (rp 1) = 0 from by decide +kernel] at CC
  refine CC.out.mono ?_; rintro e wl15 ⟨rfl, hpn⟩
  clear CC
  clear HP
  have HP := Aside0.mk hpn
  clear hpn
  go_wp2_with fail
  refine (retconlaw12_of.calls 65 2 _ _ (of_f 2)).mono ?_; rintro e wl16 ⟨v_q4, rfl, ho, hb⟩
  have HPn := Aside0.mk (HP.out.newR hb ho)
  clear HP
  have HP := HPn
  clear HPn
  clear ho hb
  obtain ⟨A_q4, c_q4, rfl⟩ := Kd.R_slice (HP.out.row 0 rfl)
  go_wp2_with fail
  have CC := Aside0.mk (c_write HP.out 8 g_b stb5 rfl 1 A_q4 c_q4 (rp 2) (by decide) (Rd.row 0 (by decide) rfl) (by decide +kernel))
  rw [show writeE stb5 1 (rp 2) = 0 from by decide +kernel] at CC
  refine CC.out.mono ?_; rintro e wl17 ⟨rfl, hpn⟩
  clear CC
  clear HP
  have HP := Aside0.mk hpn
  clear hpn
  go_wp2_with fail
  have HPn := Aside0.mk (HP.out.lit 4 (d := Kd.bool) (xs := [false, true]) (inner := [.bool false, .bool true]) (Kd.reps_scalar (enc := Value.bool) [false, true]) (by decide))
  clear HP
  obtain ⟨A_kb, hA⟩ : ∃ z : Option Addr, (some ⟨wl17.heap.size, 0, none⟩) = z := ⟨_, rfl⟩
  obtain ⟨wl18, hwq⟩ : ∃ z, wl17.alloc (.cells #[.bool false, .bool true] 4) = z := ⟨_, rfl⟩
  rw [show wl17.alloc (.cells ([.bool false, .bool true] : List Value).toArray 4) = wl18 from hwq, hA] at HPn
  rw [hwq, hA]
  clear hA hwq
  have HP := HPn
  clear HPn
  refine (c_crash HP.out 9 g_b stb6 rfl A_kb 2 [false, true] (by decide) (Rd.row 0 (by decide) rfl) 0 (by decide) (by decide +kernel)).mono ?_; rintro e wl19 ⟨rfl, hpn⟩
  clear HP
  have HP := Aside0.mk hpn
  clear hpn
  go_wp2_with fail
  refine (retconlaw12_of.calls 65 0 _ _ (of_f 0)).mono ?_; rintro e wl20 ⟨v_q5, rfl, ho, hb⟩
  have HPn := Aside0.mk (HP.out.newR hb ho)
  clear HP
  have HP := HPn
  clear HPn
  clear ho hb
  obtain ⟨A_q5, c_q5, rfl⟩ := Kd.R_slice (HP.out.row 0 rfl)
  go_wp2_with fail
  refine (c_reads HP.out 10 g_b stb7 rfl 0 (by decide +kernel) (by decide +kernel) A_q5 c_q5 64 (rp 0) (by decide) (Kd.R_reads' (HP.out.row 0 rfl)).2.1 (fun w h => (Kd.R_reads' (h.row 0 rfl)).2.2) true (by kernel_rfl)).mono ?_; rintro e wl21 ⟨rfl, hpn⟩
  clear HP
  have HP := Aside0.mk hpn
  clear hpn
  go_wp2_with fail
  refine (retconlaw12_of.calls 65 2 _ _ (of_f 2)).mono ?_; rintro e wl22 ⟨v_q6, rfl, ho, hb⟩
  have HPn := Aside0.mk (HP.out.newR hb ho)
  clear HP
  have HP := HPn
  clear HPn
  clear ho hb
  obtain ⟨A_q6, c_q6, rfl⟩ := Kd.R_slice (HP.out.row 0 rfl)
  go_wp2_with fail
  refine (c_reads HP.out 11 g_b stb7 rfl 1 (by decide +kernel) (by decide +kernel) A_q6 c_q6 64 (rp 2) (by decide) (Kd.R_reads' (HP.out.row 0 rfl)).2.1 (fun w h => (Kd.R_reads' (h.row 0 rfl)).2.2) true (by kernel_rfl)).mono ?_; rintro e wl23 ⟨rfl, hpn⟩
  clear HP
  have HP := Aside0.mk hpn
  clear hpn
  go_wp2_with fail
  have CC := Aside0.mk (c_fuseD HP.out 10 g_c newS2 rfl (1))
  rw [show fuseE (1) = 0 from by decide +kernel] at CC
  refine CC.out.mono ?_; rintro e wl24 ⟨rfl, hpn⟩
  clear CC
  clear HP
  have HP := Aside0.mk hpn
  clear hpn
  go_wp2_with fail
  refine (retconlaw12_of.calls 65 1 _ _ (of_f 1)).mono ?_; rintro e wl25 ⟨v_q7, rfl, ho, hb⟩
  have HPn := Aside0.mk (HP.out.newR hb ho)
  clear HP
  have HP := HPn
  clear HPn
  clear ho hb
  obtain ⟨A_q7, c_q7, rfl⟩ := Kd.R_slice (HP.out.row 0 rfl)
  go_wp2_with fail
  have CC := Aside0.mk (c_write HP.out 11 g_c stc8 rfl 0 A_q7 c_q7 (rp 1) (by decide) (Rd.row 0 (by decide) rfl) (by decide +kernel))
  rw [show writeE stc8 0 (rp 1) = 0 from by decide +kernel] at CC
  refine CC.out.mono ?_; rintro e wl26 ⟨rfl, hpn⟩
  clear CC
  clear HP
  have HP := Aside0.mk hpn
  clear hpn
  go_wp2_with fail
  have CC := Aside0.mk (c_flush HP.out 11 g_c stc9 rfl (by decide +kernel))
  rw [show flushE stc9 = 10 from by decide +kernel] at CC
  refine CC.out.mono ?_; rintro e wl27 ⟨rfl, hpn⟩
  clear CC
  clear HP
  have HP := Aside0.mk hpn
  clear hpn
  go_wp2_with fail
  have CC := Aside0.mk (c_upD HP.out 11 g_c stc10 rfl)
  rw [show (!DS.out stc10) = false from by decide +kernel] at CC
  refine CC.out.mono ?_; rintro e wl28 ⟨rfl, rfl⟩
  clear CC
  go_wp2_with fail
  refine (retconlaw12_of.calls 65 1 _ _ (of_f 1)).mono ?_; rintro e wl29 ⟨v_q8, rfl, ho, hb⟩
  have HPn := Aside0.mk (HP.out.newR hb ho)
  clear HP
  have HP := HPn
  clear HPn
  clear ho hb
  obtain ⟨A_q8, c_q8, rfl⟩ := Kd.R_slice (HP.out.row 0 rfl)
  go_wp2_with fail
  have CC := Aside0.mk (c_write HP.out 12 g_c stc10 rfl 0 A_q8 c_q8 (rp 1) (by decide) (Rd.row 0 (by decide) rfl) (by decide +kernel))
  rw [show writeE stc10 0 (rp 1) = 10 from by decide +kernel] at CC
  refine CC.out.mono ?_; rintro e wl30 ⟨rfl, hpn⟩
  clear CC
  clear HP
  have HP := Aside0.mk hpn
  clear hpn
  go_wp2_with fail
  have HPn := Aside0.mk (HP.out.lit 4 (d := Kd.bool) (xs := [true]) (inner := [.bool true]) (Kd.reps_scalar (enc := Value.bool) [true]) (by decide))
  clear HP
  obtain ⟨A_kc, hA⟩ : ∃ z : Option Addr, (some ⟨wl30.heap.size, 0, none⟩) = z := ⟨_, rfl⟩
  obtain ⟨wl31, hwq⟩ : ∃ z, wl30.alloc (.cells #[.bool true] 4) = z := ⟨_, rfl⟩
  rw [show wl30.alloc (.cells ([.bool true] : List Value).toArray 4) = wl31 from hwq, hA] at HPn
  rw [hwq, hA]
  clear hA hwq
  have HP := HPn
  clear HPn
  refine (c_crash HP.out 13 g_c stc11 rfl A_kc 1 [true] (by decide) (Rd.row 0 (by decide) rfl) 0 (by decide) (by decide +kernel)).mono ?_; rintro e wl32 ⟨rfl, hpn⟩
  clear HP
  have HP := Aside0.mk hpn
  clear hpn
  go_wp2_with fail
  refine (retconlaw12_of.calls 65 1 _ _ (of_f 1)).mono ?_; rintro e wl33 ⟨v_q9, rfl, ho, hb⟩
  have HPn := Aside0.mk (HP.out.newR hb ho)
  clear HP
  have HP := HPn
  clear HPn
  clear ho hb
  obtain ⟨A_q9, c_q9, rfl⟩ := Kd.R_slice (HP.out.row 0 rfl)
  go_wp2_with fail
  refine (c_reads HP.out 14 g_c stc12 rfl 0 (by decide +kernel) (by decide +kernel) A_q9 c_q9 64 (rp 1) (by decide) (Kd.R_reads' (HP.out.row 0 rfl)).2.1 (fun w h => (Kd.R_reads' (h.row 0 rfl)).2.2) true (by kernel_rfl)).mono ?_; rintro e wl34 ⟨rfl, hpn⟩
  clear HP
  have HP := Aside0.mk hpn
  clear hpn
  go_wp2_with fail
  have CC := Aside0.mk (c_upD HP.out 14 g_c stc12 rfl)
  rw [show (!DS.out stc12) = true from by decide +kernel] at CC
  refine CC.out.mono ?_; rintro e wl35 ⟨rfl, rfl⟩
  clear CC
  go_wp2_with fail
  refine (c_awake _).mono ?_; rintro e wl36 ⟨rfl, hb⟩
  have HPn := Aside0.mk (HP.out.call hb)
  clear HP
  have HP := HPn
  clear HPn
  clear hb
  go_wp2_with fail
  have CC := Aside0.mk (c_write HP.out 16 g_a sta4 rfl 0 none 0 [] (by decide) Rd_nil (by decide +kernel))
  rw [show writeE sta4 0 [] = 2 from by decide +kernel] at CC
  refine CC.out.mono ?_; rintro e wl37 ⟨rfl, hpn⟩
  clear CC
  clear HP
  have HP := Aside0.mk hpn
  clear hpn
  go_wp2_with fail
  have CC := Aside0.mk (c_fuseD HP.out 16 g_a sta13 rfl (-1))
  rw [show fuseE (-1) = 2 from by decide +kernel] at CC
  refine CC.out.mono ?_; rintro e wl38 ⟨rfl, hpn⟩
  clear CC
  clear HP
  have HP := Aside0.mk hpn
  clear hpn
  go_wp2_with fail
  refine (c_crashE HP.out 16 g_a sta14 rfl (.slice none 0 0) 64 (by decide +kernel)).mono ?_; rintro e wl39 ⟨rfl, rfl⟩
  go_wp2_with fail
  go_ret
  exact ⟨rfl, HP.out.below⟩
end Go.Proofs.Ytejfocliopbocaa.D
