import Derived.Test.YtejfocliopbocaaD12
namespace Go.Proofs.Ytejfocliopbocaa.D
open Go.RowKit Go.Proofs.Ytejfocliopbocaa.XD Go.Proofs.YtejfocliopbocaaW.PrintWords Go.Proofs.YtejfocliopbocaaW.PrintLast Go.Proofs.YtejfocliopbocaaW.PrintMore Go.Proofs.YtejfocliopbocaaXe Go.Proofs.YtejfocliopbocaaXs
set_option linter.unusedVariables false
set_option linter.unusedSimpArgs false
attribute [local go_sem ↓] Go.wp_at_zero Go.wp_at_succ
def newS (n : Int) : DS := ⟨0, -1, false, n, fun _ => s64, []⟩
theorem of_f (a0 : Int) : retconlaw12_of.f 65 a0 = some (List.replicate 64 a0) := by kernel_rfl
theorem s64_len : s64.length = 64 := rfl
set_option maxHeartbeats 8000000 in
set_option maxRecDepth 100000 in
theorem c_newD {w0 w : World} {Rs : List Res} (HP : Hp w0 w Rs) (n : Int) (h0 : 0 ≤ n) (h1 : n ≤ 65536) :
    Calls Try.prog 9 #[.int .i64 n] w fun e w' => ∃ g, e = .returned (.tuple #[.pointer (some ⟨g, 0, none⟩), .int .i64 0]) ∧ Hp w0 w' (rDisk w0.heap.size g (newS n) :: Rs) := by
  have HPa := Aside0.mk HP
  have HP2 := Aside0.mk ((HP.alloc (.map (rawM []) 0)))
  have d1 : decide (n < 0) = false := decide_eq_false (by omega)
  have d2 : decide (65536 < n) = false := decide_eq_false (by omega)
  clear h0 h1 HP
  go_enter Try.func9, Try.ntmps9
  have hmk : (Instr.makeMap 60 none).run Try.prog w = .ok (.map (some w.heap.size)) (w.alloc (.map (rawM []) 0)) := by simp [Instr.makeMap, rawM, Result.andThen]
  go_wp2_with (first | ((with_reducible refine gate_dst (N := 12) rfl ?_); refine ev_run rfl (show _ = Result.ok (Next.value _) _ from by go_simp; rw [hmk]; rfl) ?_))
  refine bodyPost_ret (results_two_tmps rfl _ _ rfl rfl) rfl ?_
  have h := HP2.out.alloc (.cells (dC 0 (-1) false true n w.heap.size (.slice none 0 0)).toArray 63 (0, 0))
  rw [show (w.alloc (.map (rawM []) 0)).heap.size = w.heap.size + 1 by simp] at h
  refine ⟨_, rfl, ?_⟩
  have h2 := (h.nilrow KL 70 (.slice none 0 0) (fun ok => Kd.R_nil _ _ _ _ ok)).rot1
  have h3 := Hp.rot2 h2
  exact Hp.closeE0 (p := diskP (newS n)) (diskL w0.heap.size _ (newS n)) (w.heap.size, [], 0, .slice none 0 0) ⟨rfl, fun _ => rfl⟩ h3
set_option maxHeartbeats 8000000 in
set_option maxRecDepth 100000 in
theorem c_newE (n : Int) (h0 : n < 0 ∨ 65536 < n) (w : World) :
    Calls Try.prog 9 #[.int .i64 n] w fun e w' => e = .returned (.tuple #[.pointer none, .int .i64 5]) ∧ w' = w := by
  by_cases h1 : n < 0
  · have d1 : decide (n < 0) = true := decide_eq_true h1
    clear h0 h1
    go_enter Try.func9, Try.ntmps9
    go_wp2_with fail
    refine bodyPost_ret (results_two_tmps rfl _ _ rfl rfl) rfl ?_
    exact ⟨rfl, rfl⟩
  · have d1 : decide (n < 0) = false := decide_eq_false h1
    have d2 : decide (65536 < n) = true := decide_eq_true (by omega)
    clear h0 h1
    go_enter Try.func9, Try.ntmps9
    go_wp2_with fail
    refine bodyPost_ret (results_two_tmps rfl _ _ rfl rfl) rfl ?_
    exact ⟨rfl, rfl⟩
set_option maxHeartbeats 8000000 in
set_option maxRecDepth 100000 in
theorem c_made {w0 w : World} {Rs : List Res} (HP : Hp w0 w Rs) :
    Calls Try.prog 8 #[] w fun e w' => ∃ g, e = .returned (.pointer (some ⟨g, 0, none⟩)) ∧ Hp w0 w' (rDisk w0.heap.size g (newS 2) :: Rs) := by
  have HPn := Aside0.mk HP
  clear HP
  have HP := HPn
  clear HPn
  go_enter Try.func8, Try.ntmps8
  go_wp2_with fail
  refine (c_newD HP.out 2 (by decide) (by decide)).mono ?_; rintro e wa ⟨g, rfl, hpn⟩
  go_wp2_with fail
  go_ret
  exact ⟨g, rfl, hpn⟩
set_option maxHeartbeats 8000000 in
set_option maxRecDepth 100000 in
theorem c_reads {w0 w : World} {Rs : List Res} (HP : Hp w0 w Rs) (i g : Nat) (S : DS) (hi : Rs[i]? = some (rDisk w0.heap.size g S)) (n : Int) (hl : S.l.length ≤ 1000000) (hr0 : S.readyE n = 0) (A : Option Addr) (c nb : Nat) (b : List Int) (hnb : b.length = nb) (hc : nb ≤ c) (hB : ∀ w, Hp w0 w Rs → (Kd.int .u8).C w A nb b) (r : Bool) (h : retconkit_SameBytes.f (putF S.at' S.l n) b = some r) :
    Calls Try.prog 14 #[.pointer (some ⟨g, 0, none⟩), .int .i64 n, .slice A nb c] w fun e w' => e = .returned (.bool r) ∧ Hp w0 w' Rs := by
  subst hnb
  have HPn := Aside0.mk HP
  clear HP
  have HP := HPn
  clear HPn
  have HC := Aside0.mk hc
  have HB := Aside0.mk hB
  have HR := Aside0.mk (c_read HP.out i g S hi n hl hr0)
  have HF := Aside0.mk h
  clear hB hc hr0 hl hi h
  go_enter Try.func14, Try.ntmps14
  go_wp2_with fail
  refine HR.out.mono ?_; rintro e wa ⟨gr, rfl, hlen, hpn⟩
  have HPn := Aside0.mk hpn
  have HLN := Aside0.mk hlen
  clear HP hpn hlen
  have HP := HPn
  clear HPn
  go_wp2_with fail
  have CC := Aside0.mk (retconkit_SameBytes.calls (some ⟨gr, 0, none⟩) 64 (putF S.at' S.l n) A c b r wa (C_ints (by rw [HLN.out]; decide) (fun j x hj => by rw [add_at, Nat.zero_add, cell_of_row wa gr _ _ _ _ (HP.out.blk 0 rfl)]; simp [u8c, hj])) (by rw [HLN.out]; exact Nat.le_refl _) (HB.out _ HP.out.drop1) HC.out HF.out)
  rw [HLN.out] at CC
  refine CC.out.mono ?_; rintro e wb ⟨rfl, n_, rfl⟩
  clear CC
  go_wp2_with fail
  go_ret
  exact ⟨by cases r <;> rfl, (HP.out.drop1).drewN n_⟩
end Go.Proofs.Ytejfocliopbocaa.D
