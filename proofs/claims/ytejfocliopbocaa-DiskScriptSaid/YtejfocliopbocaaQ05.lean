import Derived.Test.YtejfocliopbocaaQ04
namespace Go.Proofs.Ytejfocliopbocaa.D
open Go.RowKit Go.Proofs.Ytejfocliopbocaa.XD Go.Proofs.YtejfocliopbocaaW.PrintWords Go.Proofs.YtejfocliopbocaaW.PrintLast Go.Proofs.YtejfocliopbocaaW.PrintMore Go.Proofs.YtejfocliopbocaaXe Go.Proofs.YtejfocliopbocaaXs
set_option linter.unusedVariables false
set_option linter.unusedSimpArgs false
attribute [local go_sem ↓] Go.wp_at_zero Go.wp_at_succ
def newS (n : Int) : DS := ⟨0, -1, false, n, fun _ => s64, []⟩
theorem of_f (a0 : Int) : retconlaw12_of.f 65 a0 = some (List.replicate 64 a0) := by kernel_rfl
set_option maxHeartbeats 8000000 in
set_option maxRecDepth 100000 in
theorem c_newD {w0 w : World} {Rs : List Res} (HP : Hp w0 w Rs) (n : Int) (h0 : 0 ≤ n) (h1 : n ≤ 65536) :
    Calls Try.prog 9 #[.int .i64 n] w fun e w' => ∃ g, e = .returned (.tuple #[.pointer (some ⟨g, 0, none⟩), .int .i64 0]) ∧ Hp w0 w' (rDisk w0.heap.size g (newS n) :: Rs) := by
  have HPa := Aside0.mk HP
  have HP2 := Aside0.mk ((HP.alloc (.map (rawM []) 0)))
  have d1 : decide (n < 0) = false := decide_eq_false (by omega)
  have d2 : decide (65536 < n) = false := decide_eq_false (by omega)
  clear h0 h1 HP
  go_enter Try.func9, Try.ntmps9
  have hmk : (Instr.makeMap 60 none).run Try.prog w = .ok (.map (some w.heap.size)) (w.alloc (.map (rawM []) 0)) := by simp [Instr.makeMap, rawM, Result.andThen]
  go_wp2_with (first | ((with_reducible refine gate_dst (N := 12) rfl ?_); refine ev_run rfl (show _ = Result.ok (Next.value _) _ from by go_simp; rw [hmk]; rfl) ?_))
  refine bodyPost_ret (results_two_tmps rfl _ _ rfl rfl) rfl ?_
  have h := HP2.out.alloc (.cells (dC 0 (-1) false true n w.heap.size (.slice none 0 0)).toArray 63 (0, 0))
  rw [show (w.alloc (.map (rawM []) 0)).heap.size = w.heap.size + 1 by simp] at h
  refine ⟨_, rfl, ?_⟩
  have h2 := (h.nilrow KL 70 (.slice none 0 0) (fun ok => Kd.R_nil _ _ _ _ ok)).rot1
  have h3 := Hp.rot2 h2
  exact Hp.closeE0 (p := diskP (newS n)) (diskL w0.heap.size _ (newS n)) (w.heap.size, [], 0, .slice none 0 0) ⟨rfl, fun _ => rfl⟩ h3
set_option maxHeartbeats 8000000 in
set_option maxRecDepth 100000 in
theorem c_newE (n : Int) (h0 : n < 0 ∨ 65536 < n) (w : World) :
    Calls Try.prog 9 #[.int .i64 n] w fun e w' => e = .returned (.tuple #[.pointer none, .int .i64 5]) ∧ w' = w := by
  by_cases h1 : n < 0
  · have d1 : decide (n < 0) = true := decide_eq_true h1
    clear h0 h1
    go_enter Try.func9, Try.ntmps9
    go_wp2_with fail
    refine bodyPost_ret (results_two_tmps rfl _ _ rfl rfl) rfl ?_
    exact ⟨rfl, rfl⟩
  · have d1 : decide (n < 0) = false := decide_eq_false h1
    have d2 : decide (65536 < n) = true := decide_eq_true (by omega)
    clear h0 h1
    go_enter Try.func9, Try.ntmps9
    go_wp2_with fail
    refine bodyPost_ret (results_two_tmps rfl _ _ rfl rfl) rfl ?_
    exact ⟨rfl, rfl⟩
set_option maxHeartbeats 8000000 in
set_option maxRecDepth 100000 in
theorem c_made {w0 w : World} {Rs : List Res} (HP : Hp w0 w Rs) :
    Calls Try.prog 8 #[] w fun e w' => ∃ g, e = .returned (.pointer (some ⟨g, 0, none⟩)) ∧ Hp w0 w' (rDisk w0.heap.size g (newS 2) :: Rs) := by
  have HPn := Aside0.mk HP
  clear HP
  have HP := HPn
  clear HPn
  go_enter Try.func8, Try.ntmps8
  go_wp2_with fail
  refine (c_newD HP.out 2 (by decide) (by decide)).mono ?_; rintro e wa ⟨g, rfl, hpn⟩
  go_wp2_with fail
  go_ret
  exact ⟨g, rfl, hpn⟩
set_option maxHeartbeats 8000000 in
set_option maxRecDepth 100000 in
theorem c_reads {w0 w : World} {Rs : List Res} (HP : Hp w0 w Rs) (i g : Nat) (S : DS) (hi : Rs[i]? = some (rDisk w0.heap.size g S)) (n : Int) (hl : S.l.length ≤ 1000000) (hr0 : S.readyE n = 0) (A : Option Addr) (c nb : Nat) (b : List Int) (hnb : b.length = nb) (hc : nb ≤ c) (hB : ∀ w, Hp w0 w Rs → (Kd.int .u8).C w A nb b) (r : Bool) (h : retconkit_SameBytes.f (putF S.at' S.l n) b = some r) :
    Calls Try.prog 14 #[.pointer (some ⟨g, 0, none⟩), .int .i64 n, .slice A nb c] w fun e w' => e = .returned (.bool r) ∧ Hp w0 w' Rs := by
  subst hnb
  have HPn := Aside0.mk HP
  clear HP
  have HP := HPn
  clear HPn
  have HC := Aside0.mk hc
  have HB := Aside0.mk hB
  have HR := Aside0.mk (c_read HP.out i g S hi n hl hr0)
  have HF := Aside0.mk h
  clear hB hc hr0 hl hi h
  go_enter Try.func14, Try.ntmps14
  go_wp2_with fail
  refine HR.out.mono ?_; rintro e wa ⟨gr, rfl, hlen, hpn⟩
  have HPn := Aside0.mk hpn
  have HLN := Aside0.mk hlen
  clear HP hpn hlen
  have HP := HPn
  clear HPn
  go_wp2_with fail
  have CC := Aside0.mk (retconkit_SameBytes.calls (some ⟨gr, 0, none⟩) 64 (putF S.at' S.l n) A c b r wa (C_ints (by rw [HLN.out]; decide) (fun j x hj => by rw [add_at, Nat.zero_add, cell_of_row wa gr _ _ _ _ (HP.out.blk 0 rfl)]; simp [u8c, hj])) (by rw [HLN.out]; exact Nat.le_refl _) (HB.out _ HP.out.drop1) HC.out HF.out)
  rw [HLN.out] at CC
  refine CC.out.mono ?_; rintro e wb ⟨rfl, n_, rfl⟩
  clear CC
  go_wp2_with fail
  go_ret
  exact ⟨by cases r <;> rfl, (HP.out.drop1).drewN n_⟩
end Go.Proofs.Ytejfocliopbocaa.D
namespace Go.Proofs.Ytejfocliopbocaa.D
open Go.RowKit Go.Proofs.Ytejfocliopbocaa.XD Go.Proofs.YtejfocliopbocaaW.PrintWords Go.Proofs.YtejfocliopbocaaW.PrintLast Go.Proofs.YtejfocliopbocaaW.PrintMore Go.Proofs.YtejfocliopbocaaXe Go.Proofs.YtejfocliopbocaaXs
set_option linter.unusedVariables false
set_option linter.unusedSimpArgs false
attribute [local go_sem ↓] Go.wp_at_zero Go.wp_at_succ
theorem c_upD {w0 w : World} {Rs : List Res} (HP : Hp w0 w Rs) (i g : Nat) (S : DS) (hi : Rs[i]? = some (rDisk w0.heap.size g S)) :
    Calls Try.prog 16 #[.pointer (some ⟨g, 0, none⟩)] w fun e w' => e = .returned (.bool (!S.out)) ∧ w' = w := by
  obtain ⟨⟨gm, m, clock, v⟩, hm, HP0⟩ := HP.openE i hi
  exact c_up g S.steps S.fuse S.out S.many gm v w (HP0.blk 0 rfl)
theorem c_lenD {w0 w : World} {Rs : List Res} (HP : Hp w0 w Rs) (i g : Nat) (S : DS) (hi : Rs[i]? = some (rDisk w0.heap.size g S)) :
    Calls Try.prog 27 #[.pointer (some ⟨g, 0, none⟩)] w fun e w' => e = .returned (.int .i64 S.many) ∧ w' = w := by
  obtain ⟨⟨gm, m, clock, v⟩, hm, HP0⟩ := HP.openE i hi
  exact c_len g S.steps S.fuse S.out S.many gm v w (HP0.blk 0 rfl)
theorem c_stepsD {w0 w : World} {Rs : List Res} (HP : Hp w0 w Rs) (i g : Nat) (S : DS) (hi : Rs[i]? = some (rDisk w0.heap.size g S)) :
    Calls Try.prog 28 #[.pointer (some ⟨g, 0, none⟩)] w fun e w' => e = .returned (.int .i64 S.steps) ∧ w' = w := by
  obtain ⟨⟨gm, m, clock, v⟩, hm, HP0⟩ := HP.openE i hi
  exact c_steps g S.steps S.fuse S.out S.many gm v w (HP0.blk 0 rfl)
theorem c_looseD {w0 w : World} {Rs : List Res} (HP : Hp w0 w Rs) (i g : Nat) (S : DS) (hi : Rs[i]? = some (rDisk w0.heap.size g S)) :
    Calls Try.prog 22 #[.pointer (some ⟨g, 0, none⟩)] w fun e w' => e = .returned (.int .i64 (S.l.length : Int)) ∧ w' = w := by
  obtain ⟨⟨gm, m, clock, v⟩, hm, HP0⟩ := HP.openE i hi
  obtain ⟨A, c, hv⟩ := Kd.R_slice (HP0.row 2 (d := KL) (xs := S.l) rfl)
  have hv2 : v = .slice A S.l.length c := hv
  subst hv2
  exact c_loose g S.steps S.fuse S.out S.many gm A S.l.length c w (HP0.blk 0 rfl)
def fuseE (n : Int) : Int := if n < 0 then 2 else 0
def fuseS (S : DS) (n : Int) : DS := if n < 0 then S else { S with fuse := n }
theorem c_fuseD {w0 w : World} {Rs : List Res} (HP : Hp w0 w Rs) (i g : Nat) (S : DS) (hi : Rs[i]? = some (rDisk w0.heap.size g S)) (n : Int) :
    Calls Try.prog 15 #[.pointer (some ⟨g, 0, none⟩), .int .i64 n] w fun e w' => e = .returned (.int .i64 (fuseE n)) ∧ Hp w0 w' (Rs.set i (rDisk w0.heap.size g (fuseS S n))) := by
  obtain ⟨⟨gm, m, clock, v⟩, hm, HP0⟩ := HP.openE i hi
  have HP1 : Hp w0 w (.blk g (.cells (dC S.steps S.fuse S.out true S.many gm v).toArray 63 (0, 0)) :: .blk gm (.map (rawM m) clock) :: .row KL 70 w0.heap.size v S.l :: Rs.set i .none) := HP0
  have hil : i < Rs.length := (List.getElem?_eq_some_iff.1 hi).1
  have HPn := Aside0.mk HP1
  have HM := Aside0.mk hm
  have HI := Aside0.mk hil
  clear HP HP0 HP1 hm hil
  have HP := HPn
  clear HPn
  refine (c_fuse HP.out 0 g S.steps S.fuse S.out S.many gm v n rfl).mono ?_
  rintro e w1 ⟨rfl, hpn⟩
  unfold fuseE fuseS
  by_cases h : n < 0
  · rw [if_pos h] at hpn ⊢
    rw [if_pos h]
    exact ⟨rfl, Hp.closeD S HM.out HI.out hpn⟩
  · rw [if_neg h] at hpn ⊢
    rw [if_neg h]
    exact ⟨rfl, Hp.closeD { S with fuse := n } HM.out HI.out hpn⟩
theorem Rd_nil {α : Type} {d : Kd α} {w0 : World} {Rs : List Res} {i : Nat} {A : Option Addr} : Rd d w0 Rs i A 0 [] := fun _ _ _ => ⟨rfl, by decide, fun h => absurd h (by decide)⟩
theorem C_nil {α : Type} {d : Kd α} {w : World} {A : Option Addr} : d.C w A 0 [] := ⟨rfl, by decide, fun h => absurd h (by decide)⟩
theorem from8 (A : Option Addr) (c : Nat) (b : List Int) (lo : Nat) (h : lo ≤ b.length) (hc : b.length ≤ c) (hl : Int) (el : hl = (lo : Int)) : ∃ A' m, b.drop lo = m ∧ m.length = b.length - lo ∧ m.length ≤ c - lo ∧ (∀ w : World, (Instr.slice 27 (.slice A b.length c) (some (.int .i64 hl)) none none).run Try.prog w = .ok (.slice A' m.length (c - lo)) w) ∧ (∀ w : World, Kd.C (Kd.int .u8) w A b.length b → Kd.C (Kd.int .u8) w A' m.length m) := by
  obtain ⟨i, hi1, _, hs, _⟩ := info_parts info5
  subst el
  have hm : (b.drop lo).length = b.length - lo := List.length_drop
  refine ⟨if c = lo then A else A.map (·.add (lo * 1)), _, rfl, hm, by rw [hm]; omega, fun w => ?_, fun w hC => Kd.C_drop hC h hc⟩
  rw [cut_from 27 5 .i64 Try.underlying27 hi1 1 hs A b.length c lo (by omega) (by omega) w, hm]
  simp only [Int.toNat_natCast]
theorem to8 (A : Option Addr) (c : Nat) (b : List Int) (hi : Nat) (h2 : hi ≤ b.length) (hc : b.length ≤ c) (hh : Int) (eh : hh = (hi : Int)) (w : World) : (Instr.slice 27 (.slice A b.length c) none (some (.int .i64 hh)) none).run Try.prog w = .ok (.slice A hi c) w := by
  obtain ⟨i, hi1, _, hs, _⟩ := info_parts info5
  subst eh
  rw [cut_to 27 5 .i64 Try.underlying27 hi1 A b.length c hi (by omega) (by omega) hc w]
  simp only [Int.toNat_natCast]
abbrev rp (c : Int) : List Int := List.replicate 64 c
def newS2 : DS := newS 2
def stw1 : DS := writeS newS2 0 (rp 1)
def stw2 : DS := { stw1 with fuse := -1, out := false, at' := crashG [] (DS.l stw1) 0 0 (DS.at' stw1), l := [] }
set_option maxHeartbeats 8000000 in
set_option maxRecDepth 100000 in
theorem c_awake (w : World) : Calls Try.prog 17 #[] w fun e w' => e = .returned (.bool true) ∧ Below w.heap.size w w' := by
  have HP := Aside0.mk (Hp.start w)
  go_enter Try.func17, Try.ntmps17
  go_wp2_with fail
  refine (c_made HP.out).mono ?_; rintro e wl1 ⟨g_d, rfl, hpn⟩
  clear HP
  have HP := Aside0.mk hpn
  clear hpn
  go_wp2_with fail
  refine (retconlaw12_of.calls 65 1 _ _ (of_f 1)).mono ?_; rintro e wl2 ⟨v_r1, rfl, ho, hb⟩
  have HPn := Aside0.mk (HP.out.newR hb ho)
  clear HP
  have HP := HPn
  clear HPn
  clear ho hb
  obtain ⟨A_r1, c_r1, rfl⟩ := Kd.R_slice (HP.out.row 0 rfl)
  go_wp2_with fail
  have CC := Aside0.mk (c_write HP.out 1 g_d newS2 rfl 0 A_r1 c_r1 (rp 1) (by decide) (Rd.row 0 (by decide) rfl) (by decide +kernel))
  rw [show writeE newS2 0 (rp 1) = 0 from by decide +kernel] at CC
  refine CC.out.mono ?_; rintro e wl3 ⟨rfl, hpn⟩
  clear CC
  clear HP
  have HP := Aside0.mk hpn
  clear hpn
  go_wp2_with fail
  refine (retconlaw12_of.calls 65 1 _ _ (of_f 1)).mono ?_; rintro e wl4 ⟨v_r2, rfl, ho, hb⟩
  have HPn := Aside0.mk (HP.out.newR hb ho)
  clear HP
  have HP := HPn
  clear HPn
  clear ho hb
  obtain ⟨A_r2, c_r2, rfl⟩ := Kd.R_slice (HP.out.row 0 rfl)
  go_wp2_with fail
  refine (c_reads HP.out 2 g_d stw1 rfl 0 (by decide +kernel) (by decide +kernel) A_r2 c_r2 64 (rp 1) (by decide) (Kd.R_reads' (HP.out.row 0 rfl)).2.1 (fun w h => (Kd.R_reads' (h.row 0 rfl)).2.2) true (by kernel_rfl)).mono ?_; rintro e wl5 ⟨rfl, hpn⟩
  clear HP
  have HP := Aside0.mk hpn
  clear hpn
  go_wp2_with fail
  refine (c_crash HP.out 2 g_d stw1 rfl none 0 [] (by decide) Rd_nil 0 (by decide) (by decide +kernel)).mono ?_; rintro e wl6 ⟨rfl, hpn⟩
  clear HP
  have HP := Aside0.mk hpn
  clear hpn
  go_wp2_with fail
  refine (retconlaw12_of.calls 65 0 _ _ (of_f 0)).mono ?_; rintro e wl7 ⟨v_r3, rfl, ho, hb⟩
  have HPn := Aside0.mk (HP.out.newR hb ho)
  clear HP
  have HP := HPn
  clear HPn
  clear ho hb
  obtain ⟨A_r3, c_r3, rfl⟩ := Kd.R_slice (HP.out.row 0 rfl)
  go_wp2_with fail
  refine (c_reads HP.out 3 g_d stw2 rfl 0 (by decide +kernel) (by decide +kernel) A_r3 c_r3 64 (rp 0) (by decide) (Kd.R_reads' (HP.out.row 0 rfl)).2.1 (fun w h => (Kd.R_reads' (h.row 0 rfl)).2.2) true (by kernel_rfl)).mono ?_; rintro e wl8 ⟨rfl, hpn⟩
  clear HP
  have HP := Aside0.mk hpn
  clear hpn
  go_wp2_with fail
  refine (retconlaw12_of.calls 65 1 _ _ (of_f 1)).mono ?_; rintro e wl9 ⟨v_r4, rfl, ho, hb⟩
  have HPn := Aside0.mk (HP.out.newR hb ho)
  clear HP
  have HP := HPn
  clear HPn
  clear ho hb
  obtain ⟨A_r4, c_r4, rfl⟩ := Kd.R_slice (HP.out.row 0 rfl)
  go_wp2_with fail
  have CC := Aside0.mk (c_write HP.out 4 g_d stw2 rfl 2 A_r4 c_r4 (rp 1) (by decide) (Rd.row 0 (by decide) rfl) (by decide +kernel))
  rw [show writeE stw2 2 (rp 1) = 5 from by decide +kernel] at CC
  refine CC.out.mono ?_; rintro e wl10 ⟨rfl, hpn⟩
  clear CC
  clear HP
  have HP := Aside0.mk hpn
  clear hpn
  go_wp2_with fail
  go_ret
  exact ⟨rfl, HP.out.below⟩
end Go.Proofs.Ytejfocliopbocaa.D
