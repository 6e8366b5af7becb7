import Derived.Test.YtejfocliopbocaaD14
namespace Go.Proofs.Ytejfocliopbocaa.D
open Go.RowKit Go.Proofs.Ytejfocliopbocaa.XD Go.Proofs.YtejfocliopbocaaW.PrintWords Go.Proofs.YtejfocliopbocaaW.PrintLast Go.Proofs.YtejfocliopbocaaW.PrintMore Go.Proofs.YtejfocliopbocaaXe Go.Proofs.YtejfocliopbocaaXs
set_option linter.unusedVariables false
set_option linter.unusedSimpArgs false
attribute [local go_sem ↓] Go.wp_at_zero Go.wp_at_succ
/-- no disk -/
def NoD (q : Option Addr) (w : World) : Prop := ∀ w', Below w.heap.size w w' → Calls Try.prog 32 #[.pointer q] w' fun e w'' => e = .returned (.bool true) ∧ w'' = w'
theorem NoD.below {q : Option Addr} {w w1 : World} (h : NoD q w) (hb : Below w.heap.size w w1) : NoD q w1 := fun w' hb' => h w' (below_then hb hb.size hb')
theorem nod_nil (w : World) : NoD none w := fun w' _ => c_none0 w'
def zD : List Value := [.int .i64 0, .int .i64 0, .bool false, .bool false, .int .i64 0, .map none, .slice none 0 0]
set_option maxHeartbeats 8000000 in
set_option maxRecDepth 100000 in
theorem nod_zero (g : Nat) (w : World) (hg : w.heap[g]? = some (.cells zD.toArray 63 (0, 0))) : NoD (some ⟨g, 0, none⟩) w := by
  intro w' hb
  have hlt : g < w.heap.size := (Array.getElem?_eq_some_iff.1 hg).1
  have hg' : w'.heap[g]? = some (.cells zD.toArray 63 (0, 0)) := (hb.block g hlt).trans hg
  have h3 : w'.cell? ⟨g, 3, none⟩ = some (.bool false) := blk_cell hg' 3
  clear hg hg' hb hlt
  go_enter Try.func32, Try.ntmps32
  go_wp2
  go_ret
  exact ⟨rfl, rfl⟩
set_option maxHeartbeats 8000000 in
set_option maxRecDepth 100000 in
theorem n_ready (q : Option Addr) (w : World) (hN : NoD q w) (n : Int) : Calls Try.prog 29 #[.pointer q, .int .i64 n] w fun e w' => e = .returned (.int .i64 1) ∧ w' = w := by
  have HN := Aside0.mk (hN w (Below.refl _ _))
  clear hN
  go_enter Try.func29, Try.ntmps29
  go_wp2_with fail
  refine HN.out.mono ?_; rintro e w_ ⟨rfl, rfl⟩
  go_wp2_with fail
  go_ret
  exact ⟨rfl, rfl⟩
set_option maxHeartbeats 8000000 in
set_option maxRecDepth 100000 in
theorem n_read (q : Option Addr) (w : World) (hN : NoD q w) (n : Int) : Calls Try.prog 21 #[.pointer q, .int .i64 n] w fun e w' => e = .returned (.tuple #[.slice none 0 0, .int .i64 1]) ∧ w' = w := by
  have HN := Aside0.mk (n_ready q w hN n)
  clear hN
  go_enter Try.func21, Try.ntmps21
  go_wp2_with fail
  refine HN.out.mono ?_; rintro e w_ ⟨rfl, rfl⟩
  go_wp2_with fail
  refine bodyPost_ret (results_two_tmps rfl _ _ rfl rfl) rfl ?_
  exact ⟨rfl, rfl⟩
set_option maxHeartbeats 8000000 in
set_option maxRecDepth 100000 in
theorem n_fuse (q : Option Addr) (w : World) (hN : NoD q w) (n : Int) : Calls Try.prog 15 #[.pointer q, .int .i64 n] w fun e w' => e = .returned (.int .i64 1) ∧ w' = w := by
  have HN := Aside0.mk (hN w (Below.refl _ _))
  clear hN
  go_enter Try.func15, Try.ntmps15
  go_wp2_with fail
  refine HN.out.mono ?_; rintro e w_ ⟨rfl, rfl⟩
  go_wp2_with fail
  go_ret
  exact ⟨rfl, rfl⟩
set_option maxHeartbeats 8000000 in
set_option maxRecDepth 100000 in
theorem n_crash (q : Option Addr) (w : World) (hN : NoD q w) (v : Value) (n : Int) : Calls Try.prog 13 #[.pointer q, v, .int .i64 n] w fun e w' => e = .returned (.int .i64 1) ∧ w' = w := by
  have HN := Aside0.mk (hN w (Below.refl _ _))
  clear hN
  go_enter Try.func13, Try.ntmps13
  go_wp2_with fail
  refine HN.out.mono ?_; rintro e w_ ⟨rfl, rfl⟩
  go_wp2_with fail
  go_ret
  exact ⟨rfl, rfl⟩
set_option maxHeartbeats 8000000 in
set_option maxRecDepth 100000 in
theorem n_len (q : Option Addr) (w : World) (hN : NoD q w)  : Calls Try.prog 27 #[.pointer q] w fun e w' => e = .returned (.int .i64 0) ∧ w' = w := by
  have HN := Aside0.mk (hN w (Below.refl _ _))
  clear hN
  go_enter Try.func27, Try.ntmps27
  go_wp2_with fail
  refine HN.out.mono ?_; rintro e w_ ⟨rfl, rfl⟩
  go_wp2_with fail
  go_ret
  exact ⟨rfl, rfl⟩
set_option maxHeartbeats 8000000 in
set_option maxRecDepth 100000 in
theorem n_loose (q : Option Addr) (w : World) (hN : NoD q w)  : Calls Try.prog 22 #[.pointer q] w fun e w' => e = .returned (.int .i64 0) ∧ w' = w := by
  have HN := Aside0.mk (hN w (Below.refl _ _))
  clear hN
  go_enter Try.func22, Try.ntmps22
  go_wp2_with fail
  refine HN.out.mono ?_; rintro e w_ ⟨rfl, rfl⟩
  go_wp2_with fail
  go_ret
  exact ⟨rfl, rfl⟩
set_option maxHeartbeats 8000000 in
set_option maxRecDepth 100000 in
theorem n_steps (q : Option Addr) (w : World) (hN : NoD q w)  : Calls Try.prog 28 #[.pointer q] w fun e w' => e = .returned (.int .i64 0) ∧ w' = w := by
  have HN := Aside0.mk (hN w (Below.refl _ _))
  clear hN
  go_enter Try.func28, Try.ntmps28
  go_wp2_with fail
  refine HN.out.mono ?_; rintro e w_ ⟨rfl, rfl⟩
  go_wp2_with fail
  go_ret
  exact ⟨rfl, rfl⟩
set_option maxHeartbeats 8000000 in
set_option maxRecDepth 100000 in
theorem n_up (q : Option Addr) (w : World) (hN : NoD q w)  : Calls Try.prog 16 #[.pointer q] w fun e w' => e = .returned (.bool false) ∧ w' = w := by
  have HN := Aside0.mk (hN w (Below.refl _ _))
  clear hN
  go_enter Try.func16, Try.ntmps16
  go_wp2_with fail
  refine HN.out.mono ?_; rintro e w_ ⟨rfl, rfl⟩
  go_wp2_with fail
  go_ret
  exact ⟨rfl, rfl⟩
set_option maxHeartbeats 8000000 in
set_option maxRecDepth 100000 in
theorem n_flush (q : Option Addr) (w : World) (hN : NoD q w)  : Calls Try.prog 12 #[.pointer q] w fun e w' => e = .returned (.int .i64 1) ∧ Below w.heap.size w w' := by
  have HN := Aside0.mk hN
  have HP := Aside0.mk (Hp.start w)
  clear hN
  go_enter Try.func12, Try.ntmps12
  go_wp2_with (first | ((with_reducible refine gate_dst (N := 1) rfl ?_); refine ev_boxv rfl 22 (.tmp 0) rfl (.pointer q) rfl rfl ?_; intro b0 wa0 hge hg hb; have HPn := Aside0.mk (HP.out.newB hb hg hge); clear HP; have HP := HPn; clear HPn; clear hge hg hb; have h0 := blk_cell (HP.out.blk 0 rfl) 0))
  refine (HN.out _ HP.out.below).mono ?_; rintro e w_ ⟨rfl, rfl⟩
  go_wp2_with fail
  go_ret
  exact ⟨rfl, HP.out.below⟩
set_option maxHeartbeats 8000000 in
set_option maxRecDepth 100000 in
theorem n_write (q : Option Addr) (w : World) (hN : NoD q w) (n : Int) (A : Option Addr) (m c : Nat) : Calls Try.prog 11 #[.pointer q, .int .i64 n, .slice A m c] w fun e w' => e = .returned (.int .i64 1) ∧ Below w.heap.size w w' := by
  have HN := Aside0.mk hN
  have HP := Aside0.mk (Hp.start w)
  clear hN
  go_enter Try.func11, Try.ntmps11
  go_wp2_with (first | ((with_reducible refine gate_dst (N := 3) rfl ?_); refine ev_boxv rfl 22 (.tmp 0) rfl (.pointer q) rfl rfl ?_; intro b0 wa0 hge hg hb; have HPn := Aside0.mk (HP.out.newB hb hg hge); clear HP; have HP := HPn; clear HPn; clear hge hg hb) | ((with_reducible refine gate_dst (N := 4) rfl ?_); refine ev_boxv rfl 3 (.tmp 1) rfl (.int .i64 n) rfl rfl ?_; intro b1 wa1 hge hg hb; have HPn := Aside0.mk (HP.out.newB hb hg hge); clear HP; have HP := HPn; clear HPn; clear hge hg hb) | ((with_reducible refine gate_dst (N := 5) rfl ?_); refine ev_boxv rfl 27 (.tmp 2) rfl (.slice A m c) rfl rfl ?_; intro b2 wa2 hge hg hb; have HPn := Aside0.mk (HP.out.newB hb hg hge); clear HP; have HP := HPn; clear HPn; clear hge hg hb; have h0 := blk_cell (HP.out.blk 2 rfl) 0; have h1 := blk_cell (HP.out.blk 1 rfl) 0; have h2 := blk_cell (HP.out.blk 0 rfl) 0))
  refine (n_ready q _ (HN.out.below HP.out.below) n).mono ?_; rintro e w_ ⟨rfl, rfl⟩
  go_wp2_with fail
  go_ret
  exact ⟨rfl, HP.out.below⟩
set_option maxHeartbeats 8000000 in
set_option maxRecDepth 100000 in
theorem diskNone_law (n : Int) (hn : -9223372036854775808 ≤ n ∧ n ≤ 9223372036854775807) (A : Option Addr) (c : Nat) (b : List Int) (w : World) (hr : (Kd.int .u8).C w A b.length b) (hlc : b.length ≤ c ∧ b.length ≤ 9223372036854775807) (hb : ∀ x ∈ b, 0 ≤ x ∧ x < 256) :
    Calls Try.prog 7 #[.int .i64 n, .slice A b.length c] w fun e w' => e = .returned (.bool true) ∧ Below w.heap.size w w' := by
  clear hr hb hn
  have hm := hlc.2
  clear hlc
  obtain ⟨m, hm2⟩ : ∃ z, b.length = z := ⟨_, rfl⟩
  rw [hm2] at hm
  rw [hm2]
  clear hm2
  by_cases c1 : 100 < m
  · have d1 : decide ((100 : Int) < (m : Int)) = true := decide_eq_true (by omega)
    clear c1
    go_enter Try.func7, Try.ntmps7
    go_wp2_with fail
    refine (c_awake _).mono ?_; rintro e w_ ⟨rfl, hb⟩
    go_wp2_with fail
    go_ret
    exact ⟨rfl, hb⟩
  · have d1 : decide ((100 : Int) < (m : Int)) = false := decide_eq_false (by omega)
    clear c1
    have HP1 := Aside0.mk ((Hp.start w).alloc (.cells zD.toArray 63 (0, 0)))
    obtain ⟨w1, hw1⟩ : ∃ z, w.alloc (.cells zD.toArray 63 (0, 0)) = z := ⟨_, rfl⟩
    rw [hw1] at HP1
    obtain ⟨gz, hgz⟩ : ∃ z, w.heap.size = z := ⟨_, rfl⟩
    have hs1 : w1.heap.size = gz + 1 := by rw [← hw1, ← hgz]; simp
    go_enter Try.func7, Try.ntmps7
    go_wp2_with fail
    have HPn := Aside0.mk (show Hp w _ [.blk (gz + 1) (.cells #[.pointer none, .pointer (some ⟨gz, 0, none⟩)] 22 (0, 0)), .blk gz (.cells zD.toArray 63 (0, 0))] from by have h := HP1.out.alloc (.cells #[.pointer none, .pointer (some ⟨gz, 0, none⟩)] 22 (0, 0)); rw [hs1, hgz] at h; exact h)
    clear HP1 d1
    obtain ⟨gl, hgl⟩ : ∃ z, gz + 1 = z := ⟨_, rfl⟩
    rw [hgl] at HPn
    rw [hgl]
    have HP := Aside0.mk HPn.out
    have HW := Aside0.mk hw1
    clear hw1 hgz hs1 hgl HPn
    go_loopg [7] 2 (fun kq v7 w' => ∃ i : Nat, v7 = .int .i64 (i : Int) ∧ Aside0 (kq + i = 2) ∧ Aside0 (Hp w w' [.blk gl (.cells #[.pointer none, .pointer (some ⟨gz, 0, none⟩)] 22 (0, 0)), .blk gz (.cells zD.toArray 63 (0, 0))]))
    case atStart => exact ⟨0, rfl, ⟨rfl⟩, ⟨by have h := HP.out; rw [← HW.out] at h; exact h⟩⟩
    clear HP HW
    obtain ⟨i, rfl, HK, HP⟩ := hrel
    have hk := HK.out
    match i, hk with
    | 0, hk =>
      have HN := Aside0.mk (nod_nil wr)
      clear hk
      have hx : wr.cell? ⟨gl, 0, none⟩ = some (.pointer none) := blk_cell (HP.out.blk 0 rfl) 0
      go_wp2_with fail
      refine (n_read _ _ HN.out _).mono ?_; rintro e w_ ⟨rfl, rfl⟩
      go_wp2_with fail
      refine (n_write _ _ HN.out _ _ _ _).mono ?_; rintro e wy1 ⟨rfl, hb⟩
      have HPn := Aside0.mk (HP.out.call hb)
      have HNn := Aside0.mk (HN.out.below hb)
      clear HP HN hb hx
      have HP := HPn
      have HN := HNn
      clear HPn HNn
      have hx : wy1.cell? ⟨gl, 0, none⟩ = some (.pointer none) := blk_cell (HP.out.blk 0 rfl) 0
      go_wp2_with fail
      refine (n_flush _ _ HN.out).mono ?_; rintro e wy2 ⟨rfl, hb⟩
      have HPn := Aside0.mk (HP.out.call hb)
      have HNn := Aside0.mk (HN.out.below hb)
      clear HP HN hb hx
      have HP := HPn
      have HN := HNn
      clear HPn HNn
      have hx : wy2.cell? ⟨gl, 0, none⟩ = some (.pointer none) := blk_cell (HP.out.blk 0 rfl) 0
      go_wp2_with fail
      refine (n_fuse _ _ HN.out _).mono ?_; rintro e w_ ⟨rfl, rfl⟩
      go_wp2_with fail
      refine (n_crash _ _ HN.out _ _).mono ?_; rintro e w_ ⟨rfl, rfl⟩
      go_wp2_with fail
      refine (n_len _ _ HN.out).mono ?_; rintro e w_ ⟨rfl, rfl⟩
      go_wp2_with fail
      refine (n_loose _ _ HN.out).mono ?_; rintro e w_ ⟨rfl, rfl⟩
      go_wp2_with fail
      refine (n_steps _ _ HN.out).mono ?_; rintro e w_ ⟨rfl, rfl⟩
      go_wp2_with fail
      refine (n_up _ _ HN.out).mono ?_; rintro e w_ ⟨rfl, rfl⟩
      go_wp2_with fail
      clear hx HN
      go_roundg 1
      case measure => have := HK.out; omega
      case rel => exact ⟨1, by first | rfl | simp, ⟨rfl⟩, HP⟩
    | 1, hk =>
      have HN := Aside0.mk (nod_zero gz wr (HP.out.blk 1 rfl))
      clear hk
      have hx : wr.cell? ⟨gl, 1, none⟩ = some (.pointer (some ⟨gz, 0, none⟩)) := blk_cell (HP.out.blk 0 rfl) 1
      go_wp2_with fail
      refine (n_read _ _ HN.out _).mono ?_; rintro e w_ ⟨rfl, rfl⟩
      go_wp2_with fail
      refine (n_write _ _ HN.out _ _ _ _).mono ?_; rintro e wy1 ⟨rfl, hb⟩
      have HPn := Aside0.mk (HP.out.call hb)
      have HNn := Aside0.mk (HN.out.below hb)
      clear HP HN hb hx
      have HP := HPn
      have HN := HNn
      clear HPn HNn
      have hx : wy1.cell? ⟨gl, 1, none⟩ = some (.pointer (some ⟨gz, 0, none⟩)) := blk_cell (HP.out.blk 0 rfl) 1
      go_wp2_with fail
      refine (n_flush _ _ HN.out).mono ?_; rintro e wy2 ⟨rfl, hb⟩
      have HPn := Aside0.mk (HP.out.call hb)
      have HNn := Aside0.mk (HN.out.below hb)
      clear HP HN hb hx
      have HP := HPn
      have HN := HNn
      clear HPn HNn
      have hx : wy2.cell? ⟨gl, 1, none⟩ = some (.pointer (some ⟨gz, 0, none⟩)) := blk_cell (HP.out.blk 0 rfl) 1
      go_wp2_with fail
      refine (n_fuse _ _ HN.out _).mono ?_; rintro e w_ ⟨rfl, rfl⟩
      go_wp2_with fail
      refine (n_crash _ _ HN.out _ _).mono ?_; rintro e w_ ⟨rfl, rfl⟩
      go_wp2_with fail
      refine (n_len _ _ HN.out).mono ?_; rintro e w_ ⟨rfl, rfl⟩
      go_wp2_with fail
      refine (n_loose _ _ HN.out).mono ?_; rintro e w_ ⟨rfl, rfl⟩
      go_wp2_with fail
      refine (n_steps _ _ HN.out).mono ?_; rintro e w_ ⟨rfl, rfl⟩
      go_wp2_with fail
      refine (n_up _ _ HN.out).mono ?_; rintro e w_ ⟨rfl, rfl⟩
      go_wp2_with fail
      clear hx HN
      go_roundg 0
      case measure => have := HK.out; omega
      case rel => exact ⟨2, by first | rfl | simp, ⟨rfl⟩, HP⟩
    | 2, hk =>
      clear hk
      go_wp2_with fail
      refine (c_awake _).mono ?_; rintro e w_ ⟨rfl, hb⟩
      have HPn := Aside0.mk (HP.out.call hb)
      clear HP hb
      go_wp2_with fail
      go_ret
      exact ⟨rfl, HPn.out.below⟩
    | i + 3, hk => omega
end Go.Proofs.Ytejfocliopbocaa.D
