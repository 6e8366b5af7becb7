import Derived.Test.YtncmbkjjoamfjaaH7
namespace Go.Proofs.Ytncmbkjjoamfjaa.H
open Go.RowKit Go.Proofs.Ytncmbkjjoamfjaa.XH Go.Proofs.YtncmbkjjoamfjaaW.PrintWords Go.Proofs.YtncmbkjjoamfjaaW.PrintLast Go.Proofs.YtncmbkjjoamfjaaW.PrintMore Go.Proofs.YtncmbkjjoamfjaaXe Go.Proofs.YtncmbkjjoamfjaaXs
set_option linter.unusedVariables false
set_option linter.unusedSimpArgs false
attribute [local go_sem ↓] Go.wp_at_zero Go.wp_at_succ
attribute [local go_sem] valUpon
attribute [local go_sem ↓ high] bn67 bn69 bn29
attribute [local go_sem high] BN67.run BN69.run BN29.run
def add8 (s v : V8) : List Int := [(s.a + v.a) % 4294967296, (s.b + v.b) % 4294967296, (s.c + v.c) % 4294967296, (s.d + v.d) % 4294967296, (s.e + v.e) % 4294967296, (s.f + v.f) % 4294967296, (s.g + v.g) % 4294967296, (s.h + v.h) % 4294967296]
theorem add8_eq (s v : V8) : add8 s v = addI s.l v.l 8 := rfl
set_option maxHeartbeats 8000000 in
set_option maxRecDepth 100000 in
theorem c_ch (x y z : Int) (w : World) : Calls Try.prog 44 #[.int .u32 x, .int .u32 y, .int .u32 z] w fun e w' => e = .returned (.int .u32 (Go.bits .xor .u32 (Go.bits .and .u32 x y) (Go.bits .and .u32 (notI x) z))) ∧ Drawn0 w w' := by
  go_enter Try.func44, Try.ntmps44
  go_wp2
  go_ret
  exact ⟨rfl, Drawn0.refl _⟩
theorem c_upE (x : Int) (w : World) : Calls Try.prog 43 #[.int .u32 x] w fun e w' => e = .returned (.int .u32 (Go.bits .xor .u32 (Go.bits .xor .u32 (rot x 6) (rot x 11)) (rot x 25))) ∧ Drawn0 w w' := retconref02_upperE.calls x _ w (upE_f x)
theorem c_upA (x : Int) (w : World) : Calls Try.prog 45 #[.int .u32 x] w fun e w' => e = .returned (.int .u32 (Go.bits .xor .u32 (Go.bits .xor .u32 (rot x 2) (rot x 13)) (rot x 22))) ∧ Drawn0 w w' := retconref02_upperA.calls x _ w (upA_f x)
theorem c_maj (x y z : Int) (w : World) : Calls Try.prog 46 #[.int .u32 x, .int .u32 y, .int .u32 z] w fun e w' => e = .returned (.int .u32 (Go.bits .xor .u32 (Go.bits .xor .u32 (Go.bits .and .u32 x y) (Go.bits .and .u32 x z)) (Go.bits .and .u32 y z))) ∧ Drawn0 w w' := retconref02_maj.calls x y z _ w rfl
theorem c_sched (A : Option Addr) (c : Nat) (b : List Int) (w : World) (hr : Kd.C (Kd.int .u8) w A b.length b) (hc : b.length ≤ c) (hb : b.length = 64) (hB : Bytes b) : Calls Try.prog 42 #[.slice A b.length c] w fun e w' => ∃ v0_ : Value, e = .returned (v0_) ∧ Kd.R (Kd.int .u32) 56 w' w.heap.size (fun _ => True) v0_ (w2I b 48) ∧ Below w.heap.size w w' := retconref02_schedule.calls 200 A c b _ w hr hc (sched_f hB hb)
set_option maxHeartbeats 8000000 in
set_option maxRecDepth 100000 in
theorem c_block (s : V8) (b : List Int) (hb : b.length = 64) (hB : Bytes b) (A : Option Addr) (c : Nat) (A2 : Option Addr) (c2 : Nat) (w : World) (hr : Kd.C (Kd.int .u8) w A b.length b) (hc : b.length ≤ c) (hk : Kd.C (Kd.int .u32) w A2 KW.length KW) :
    Calls Try.prog 38 #[.agg (u32s s.l).toArray, .slice A b.length c, .slice A2 KW.length c2] w fun e w' => e = .returned (.agg (u32s (behI s b)).toArray) ∧ Below w.heap.size w w' := by
  have HR := Aside0.mk hr
  have HC := Aside0.mk hc
  have HK0 := Aside0.mk hk
  have HBL := Aside0.mk hb
  have HBY := Aside0.mk hB
  have HP := Aside0.mk (Hp.start w)
  clear hr hc hk hb hB
  go_enter Try.func38, Try.ntmps38
  go_wp2_with (first | ((with_reducible refine gate_dst (N := 3) rfl ?_); refine ev_box rfl 58 (.tmp 0) rfl (u32s s.l).toArray rfl ?_; intro g_s wn1 hge hg hb; have HPn := Aside0.mk (HP.out.newB hb hg hge); clear HP; have HP := HPn; clear HPn; clear hge hg hb) | ((with_reducible refine gate_dst (N := 6) rfl ?_); refine ev_alloc rfl 58 rfl (.agg (u32s (List.replicate 8 0)).toArray) (by kernel_rfl) ?_; intro g_o wn2 hge hg hb; have HPn := Aside0.mk (HP.out.newB hb hg hge); clear HP; have HP := HPn; clear HPn; clear hge hg hb))
  (with_reducible refine (c_sched A c b _ (Kd.C_below HR.out HP.out.below) HC.out HBL.out HBY.out).mono ?_); rintro e wn3 ⟨v, rfl, ho, hb⟩; have HPn := Aside0.mk (HP.out.newR hb ho); clear HP; have HP := HPn; clear HPn; obtain ⟨A_ws, c_ws, rfl⟩ := Kd.R_slice (HP.out.row 0 rfl); clear hb ho
  go_wp2_with (first | ((with_reducible refine gate_dst (N := 14) rfl ?_); refine ev_load rfl 58 (.tmp 3) rfl g_s rfl (HP.out.blk 2 rfl) Try.underlying58 rfl (by kernel_rfl) ?_) | ((with_reducible refine gate_dst (N := 8) rfl ?_); refine ev_alloc rfl 58 rfl (.agg (u32s (List.replicate 8 0)).toArray) (by kernel_rfl) ?_; intro g_v wn4 hge hg hb; have HPn := Aside0.mk (HP.out.newB hb hg hge); clear HP; have HP := HPn; clear HPn; clear hge hg hb) | ((with_reducible refine gate_store (t := 58) (p := 8) rfl ?_); refine ev_store rfl 58 (.tmp 8) (.tmp 14) rfl rfl _ rfl (cells := (u32s s.l).toArray) rfl (HP.out.blk 0 rfl) (by kernel_rfl) (by rfl) (one_u32 _) ?_; intro wn5 hg hgr; have HPn := Aside0.mk (HP.out.setB 0 rfl hgr hg); clear HP; have HP := HPn; clear HPn; clear hg hgr))
  have HP1 := Aside0.mk (show Hp w wn5 [.blk g_v (.cells (u32s s.l).toArray 58 (0, 0)), .row (Kd.int .u32) 56 w.heap.size (.slice A_ws (w2I b 48).length c_ws) (w2I b 48), .blk g_o (.cells (u32s (List.replicate 8 0)).toArray 58 (0, 0)), .blk g_s (.cells (u32s s.l).toArray 58 (0, 0))] from HP.out)
  clear HP
  go_wp2
  go_loopg [9, 10, 11] 64 (fun kq v9 v10 v11 w' => ∃ (i : Nat) (x : Int) (v : V8), v9 = .int .i64 x ∧ Aside0 (x = (i : Int)) ∧ Aside0 (kq + i = 64) ∧ Aside0 (v = rndsI s KW (w2I b 48) i) ∧ Aside0 (Hp w w' [.blk g_v (.cells (u32s v.l).toArray 58 (0, 0)), .row (Kd.int .u32) 56 w.heap.size (.slice A_ws (w2I b 48).length c_ws) (w2I b 48), .blk g_o (.cells (u32s (List.replicate 8 0)).toArray 58 (0, 0)), .blk g_s (.cells (u32s s.l).toArray 58 (0, 0))]))
  case atStart => exact ⟨0, 0, s, rfl, ⟨rfl⟩, ⟨rfl⟩, ⟨rfl⟩, HP1⟩
  case round =>
    clear HP1
    obtain ⟨i, x, v, rfl, HX, HK, HV, HP⟩ := hrel
    have hx := HX.out
    by_cases c1 : i < 64
    · have d1 : decide (x < 64) = true := decide_eq_true (by omega)
      have ex := i64k (x := x + 1) rfl (by omega)
      have px : 0 ≤ x := by omega
      have qk : x < (KW.length : Int) := by show x < 64; omega
      have qw : x < ((w2I b 48).length : Int) := by rw [w2I_len]; omega
      obtain ⟨ak, rfl, hxk⟩ := Kd.at_int (Kd.C_below HK0.out HP.out.below) x px qk
      obtain ⟨aw, rfl, hxw⟩ := Kd.at_int (Kd.R_reads' (HP.out.row 1 rfl)).2.2 x px qw
      have hc0 : wr.cell? ⟨g_v, 0, none⟩ = some (.int .u32 v.a) := cellN (l := v.l) (HP.out.blk 0 rfl) 0 (by show 0 < 8; decide)
      have hc1 : wr.cell? ⟨g_v, 1, none⟩ = some (.int .u32 v.b) := cellN (l := v.l) (HP.out.blk 0 rfl) 1 (by show 1 < 8; decide)
      have hc2 : wr.cell? ⟨g_v, 2, none⟩ = some (.int .u32 v.c) := cellN (l := v.l) (HP.out.blk 0 rfl) 2 (by show 2 < 8; decide)
      have hc3 : wr.cell? ⟨g_v, 3, none⟩ = some (.int .u32 v.d) := cellN (l := v.l) (HP.out.blk 0 rfl) 3 (by show 3 < 8; decide)
      have hc4 : wr.cell? ⟨g_v, 4, none⟩ = some (.int .u32 v.e) := cellN (l := v.l) (HP.out.blk 0 rfl) 4 (by show 4 < 8; decide)
      have hc5 : wr.cell? ⟨g_v, 5, none⟩ = some (.int .u32 v.f) := cellN (l := v.l) (HP.out.blk 0 rfl) 5 (by show 5 < 8; decide)
      have hc6 : wr.cell? ⟨g_v, 6, none⟩ = some (.int .u32 v.g) := cellN (l := v.l) (HP.out.blk 0 rfl) 6 (by show 6 < 8; decide)
      have hc7 : wr.cell? ⟨g_v, 7, none⟩ = some (.int .u32 v.h) := cellN (l := v.l) (HP.out.blk 0 rfl) 7 (by show 7 < 8; decide)
      have HB1 := Aside0.mk c1
      clear hx c1
      go_wp2
      go_quiet (first | (go_at_call 43; refine (c_upE _ _).mono ?_; rintro e w' ⟨rfl, ⟨nd, rfl⟩⟩; first | exact ⟨rfl, _, World.drewN_drewN _ _ _⟩ | exact ⟨rfl, _, Eq.trans (World.drewN_drewN _ _ _) (congrArg (World.drewN _) (Nat.add_assoc _ _ _))⟩ | exact ⟨rfl, _, rfl⟩) | (go_at_call 44; refine (c_ch _ _ _ _).mono ?_; rintro e w' ⟨rfl, ⟨nd, rfl⟩⟩; first | exact ⟨rfl, _, World.drewN_drewN _ _ _⟩ | exact ⟨rfl, _, Eq.trans (World.drewN_drewN _ _ _) (congrArg (World.drewN _) (Nat.add_assoc _ _ _))⟩ | exact ⟨rfl, _, rfl⟩))
      generalize hT : ((v.h + Go.bits .xor .u32 (Go.bits .xor .u32 (rot v.e 6) (rot v.e 11)) (rot v.e 25) + Go.bits .xor .u32 (Go.bits .and .u32 v.e v.f) (Go.bits .and .u32 (notI v.e) v.g) + rd KW x) % 4294967296 + rd (w2I b 48) x) % 4294967296 = tv
      have HT := Aside0.mk hT
      clear hT
      go_wp2
      go_quiet (first | (go_at_call 45; refine (c_upA _ _).mono ?_; rintro e w' ⟨rfl, ⟨nd, rfl⟩⟩; first | exact ⟨rfl, _, World.drewN_drewN _ _ _⟩ | exact ⟨rfl, _, Eq.trans (World.drewN_drewN _ _ _) (congrArg (World.drewN _) (Nat.add_assoc _ _ _))⟩ | exact ⟨rfl, _, rfl⟩) | (go_at_call 46; refine (c_maj _ _ _ _).mono ?_; rintro e w' ⟨rfl, ⟨nd, rfl⟩⟩; first | exact ⟨rfl, _, World.drewN_drewN _ _ _⟩ | exact ⟨rfl, _, Eq.trans (World.drewN_drewN _ _ _) (congrArg (World.drewN _) (Nat.add_assoc _ _ _))⟩ | exact ⟨rfl, _, rfl⟩))
      generalize hU : (Go.bits .xor .u32 (Go.bits .xor .u32 (rot v.a 2) (rot v.a 13)) (rot v.a 22) + Go.bits .xor .u32 (Go.bits .xor .u32 (Go.bits .and .u32 v.a v.b) (Go.bits .and .u32 v.a v.c)) (Go.bits .and .u32 v.b v.c)) % 4294967296 = uv
      have HU := Aside0.mk hU
      clear hU
      go_wp2_with (first | ((with_reducible refine gate_store (t := 58) (p := 8) rfl ?_); refine ev_store rfl 58 (.tmp 8) (.tmp 73) rfl rfl _ rfl (cells := (u32s (V8.l ⟨(tv + uv) % 4294967296, v.a, v.b, v.c, (v.d + tv) % 4294967296, v.e, v.f, v.g⟩)).toArray) rfl ((HP.out.drewN _).blk 0 rfl) (by kernel_rfl) (by rfl) (one_u32 _) ?_; intro wn41 hg hgr; have HPn := Aside0.mk ((HP.out.drewN _).setB 0 rfl hgr hg); clear HP; have HP := HPn; clear HPn; clear hg hgr))
      have hrv : (⟨(tv + uv) % 4294967296, v.a, v.b, v.c, (v.d + tv) % 4294967296, v.e, v.f, v.g⟩ : V8) = rndsI s KW (w2I b 48) (i + 1) := by
        rw [rndsI, ← HV.out, ← HX.out]
        have h1 : sumI v (rd KW x) (rd (w2I b 48) x) = tv := by
          rw [← HT.out]
          unfold sumI
          simp only [IntKind.wrap_u32, Int.emod_add_emod]
          rfl
        have h2 := HU.out
        unfold rndI
        rw [h1, ← h2, Int.add_emod_emod]
      go_roundg (gk - 1)
      case measure => have := HK.out; have := HB1.out; omega
      case rel => exact ⟨i + 1, x + 1, _, by simp, ⟨by have := HX.out; omega⟩, ⟨by have := HK.out; have := HB1.out; omega⟩, ⟨hrv⟩, ⟨HP.out⟩⟩
    · have d1 : decide (x < 64) = false := decide_eq_false (by omega)
      obtain rfl : i = 64 := by have := HK.out; omega
      have hc0 : wr.cell? ⟨g_v, 0, none⟩ = some (.int .u32 v.a) := cellN (l := v.l) (HP.out.blk 0 rfl) 0 (by show 0 < 8; decide)
      have hc1 : wr.cell? ⟨g_v, 1, none⟩ = some (.int .u32 v.b) := cellN (l := v.l) (HP.out.blk 0 rfl) 1 (by show 1 < 8; decide)
      have hc2 : wr.cell? ⟨g_v, 2, none⟩ = some (.int .u32 v.c) := cellN (l := v.l) (HP.out.blk 0 rfl) 2 (by show 2 < 8; decide)
      have hc3 : wr.cell? ⟨g_v, 3, none⟩ = some (.int .u32 v.d) := cellN (l := v.l) (HP.out.blk 0 rfl) 3 (by show 3 < 8; decide)
      have hc4 : wr.cell? ⟨g_v, 4, none⟩ = some (.int .u32 v.e) := cellN (l := v.l) (HP.out.blk 0 rfl) 4 (by show 4 < 8; decide)
      have hc5 : wr.cell? ⟨g_v, 5, none⟩ = some (.int .u32 v.f) := cellN (l := v.l) (HP.out.blk 0 rfl) 5 (by show 5 < 8; decide)
      have hc6 : wr.cell? ⟨g_v, 6, none⟩ = some (.int .u32 v.g) := cellN (l := v.l) (HP.out.blk 0 rfl) 6 (by show 6 < 8; decide)
      have hc7 : wr.cell? ⟨g_v, 7, none⟩ = some (.int .u32 v.h) := cellN (l := v.l) (HP.out.blk 0 rfl) 7 (by show 7 < 8; decide)
      have hs0 : wr.cell? ⟨g_s, 0, none⟩ = some (.int .u32 s.a) := cellN (l := s.l) (HP.out.blk 3 rfl) 0 (by show 0 < 8; decide)
      have hs1 : wr.cell? ⟨g_s, 1, none⟩ = some (.int .u32 s.b) := cellN (l := s.l) (HP.out.blk 3 rfl) 1 (by show 1 < 8; decide)
      have hs2 : wr.cell? ⟨g_s, 2, none⟩ = some (.int .u32 s.c) := cellN (l := s.l) (HP.out.blk 3 rfl) 2 (by show 2 < 8; decide)
      have hs3 : wr.cell? ⟨g_s, 3, none⟩ = some (.int .u32 s.d) := cellN (l := s.l) (HP.out.blk 3 rfl) 3 (by show 3 < 8; decide)
      have hs4 : wr.cell? ⟨g_s, 4, none⟩ = some (.int .u32 s.e) := cellN (l := s.l) (HP.out.blk 3 rfl) 4 (by show 4 < 8; decide)
      have hs5 : wr.cell? ⟨g_s, 5, none⟩ = some (.int .u32 s.f) := cellN (l := s.l) (HP.out.blk 3 rfl) 5 (by show 5 < 8; decide)
      have hs6 : wr.cell? ⟨g_s, 6, none⟩ = some (.int .u32 s.g) := cellN (l := s.l) (HP.out.blk 3 rfl) 6 (by show 6 < 8; decide)
      have hs7 : wr.cell? ⟨g_s, 7, none⟩ = some (.int .u32 s.h) := cellN (l := s.l) (HP.out.blk 3 rfl) 7 (by show 7 < 8; decide)
      clear c1 hx HX HK
      go_wp2_with (first | ((with_reducible refine gate_store (t := 58) (p := 6) rfl ?_); refine ev_store rfl 58 (.tmp 6) (.tmp 114) rfl rfl _ rfl (cells := (u32s (add8 s v)).toArray) rfl (HP.out.blk 2 rfl) (by kernel_rfl) (by rfl) (one_u32 _) ?_; intro wn51 hg hgr; have HPn := Aside0.mk (HP.out.setB 2 rfl hgr hg); clear HP; have HP := HPn; clear HPn; clear hg hgr))
      refine bodyPost_ret (results_cell_row rfl _ _ g_o 58 (u32s (add8 s v)).toArray (0, 0) _ rfl (HP.out.blk 2 rfl) Try.underlying58 rfl (by kernel_rfl)) rfl ?_
      exact ⟨by rw [add8_eq, HV.out]; rfl, HP.out.below⟩
end Go.Proofs.Ytncmbkjjoamfjaa.H
