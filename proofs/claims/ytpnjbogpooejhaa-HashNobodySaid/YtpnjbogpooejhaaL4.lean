import Derived.Test.YtpnjbogpooejhaaK5
import Derived.Test.YtpnjbogpooejhaaK6
namespace Go.Proofs.Ytpnjbogpooejhaa.H
open Go.RowKit Go.Proofs.Ytpnjbogpooejhaa.XH Go.Proofs.YtpnjbogpooejhaaW.PrintWords Go.Proofs.YtpnjbogpooejhaaW.PrintLast Go.Proofs.YtpnjbogpooejhaaW.PrintMore Go.Proofs.YtpnjbogpooejhaaXe Go.Proofs.YtpnjbogpooejhaaXs
set_option linter.unusedVariables false
set_option linter.unusedSimpArgs false
attribute [local go_sem ↓] Go.wp_at_zero Go.wp_at_succ
attribute [local go_sem] valUpon
attribute [local go_sem ↓ high] bn23 bn52
attribute [local go_sem high] BN23.z eq_zz
def dz : List Value := dc false ⟨0, 0, 0, 0, 0, 0, 0, 0⟩ (List.replicate 64 0) 0
theorem BN52.zero (w : World) : (BN52 #[]).run Try.prog w = .ok (.agg dz.toArray) w := by unfold BN52; kernel_rfl
attribute [local go_sem high] BN52.zero
set_option maxHeartbeats 8000000 in
set_option maxRecDepth 100000 in
theorem n_write (p : Value) (b : Value) (w : World) (HA : ∀ w', Below w.heap.size w w' → Calls Try.prog 31 #[p] w' fun e w'' => e = .returned (.bool true) ∧ w'' = w') : Calls Try.prog 20 #[p, b] w fun e w' => e = .returned (.tuple #[]) ∧ w' = w := by
  have HA1 := Aside0.mk (HA w (Below.refl _ _))
  clear HA
  go_enter Try.func20, Try.ntmps20
  go_wp2_with fail
  refine HA1.out.mono ?_; rintro e w_ ⟨rfl, rfl⟩
  go_wp2
  exact bodyPost_ret (v := .tuple #[]) (by simp [results, Try.results20, go_sem]) rfl ⟨rfl, rfl⟩
set_option maxHeartbeats 8000000 in
set_option maxRecDepth 100000 in
theorem n_len (p : Value) (w : World) (HA : ∀ w', Below w.heap.size w w' → Calls Try.prog 31 #[p] w' fun e w'' => e = .returned (.bool true) ∧ w'' = w') : Calls Try.prog 25 #[p] w fun e w' => e = .returned (.int .i64 0) ∧ w' = w := by
  have HA1 := Aside0.mk (HA w (Below.refl _ _))
  clear HA
  go_enter Try.func25, Try.ntmps25
  go_wp2_with fail
  refine HA1.out.mono ?_; rintro e w_ ⟨rfl, rfl⟩
  go_wp2
  go_ret
  exact ⟨rfl, rfl⟩
set_option maxHeartbeats 8000000 in
set_option maxRecDepth 100000 in
theorem n_sum (p : Value) (w : World) (HA : ∀ w', Below w.heap.size w w' → Calls Try.prog 31 #[p] w' fun e w'' => e = .returned (.bool true) ∧ w'' = w') : Calls Try.prog 24 #[p] w fun e w' => e = .returned (.agg (u8s z32).toArray) ∧ Below w.heap.size w w' := by
  have HA1 := Aside0.mk HA
  have HP := Aside0.mk (Hp.start w)
  clear HA
  go_enter Try.func24, Try.ntmps24
  go_wp2_with (first | ((with_reducible refine gate_dst (N := 2) rfl ?_); refine ev_alloc rfl 23 rfl (.agg (u8s z32).toArray) (by kernel_rfl) ?_; intro g_o wn1 hge hg hb; have HPn := Aside0.mk (HP.out.newB hb hg hge); clear HP; have HP := HPn; clear HPn; clear hge hg hb))
  refine (HA1.out _ HP.out.below).mono ?_; rintro e w_ ⟨rfl, rfl⟩
  go_wp2_with (first | ((with_reducible refine gate_store (t := 23) (p := 2) rfl ?_); refine ev_store rfl 23 (.tmp 2) (.tmp 14) rfl rfl _ rfl (cells := (u8s z32).toArray) rfl (HP.out.blk 0 rfl) (by kernel_rfl) (by rfl) (one_u8 _) ?_; intro wn2 hg hgr; have HPn := Aside0.mk (HP.out.setB 0 rfl hgr hg); clear HP; have HP := HPn; clear HPn; clear hg hgr))
  refine bodyPost_ret (results_cell_row rfl _ _ g_o 23 (u8s z32).toArray (0, 0) _ rfl (HP.out.blk 0 rfl) Try.underlying23 rfl (by kernel_rfl)) rfl ?_
  exact ⟨rfl, HP.out.below⟩
set_option maxHeartbeats 8000000 in
set_option maxRecDepth 100000 in
theorem hashNobody_law (A : Option Addr) (c : Nat) (b : List Int) (w : World) (hr : Kd.C (Kd.int .u8) w A b.length b) (hc : b.length ≤ c) (hm : b.length ≤ 9223372036854775807) : Calls Try.prog 7 #[.slice A b.length c] w fun e w' => e = .returned (.bool true) ∧ Below w.heap.size w w' := by
  by_cases hb : b.length ≤ 200
  · have d0 : decide ((b.length : Int) ≤ 200) = true := decide_eq_true (by omega)
    have HP := Aside0.mk (Hp.start w)
    clear hb hr hc hm
    go_enter Try.func7, Try.ntmps7
    go_wp2_with (first | ((with_reducible refine gate_dst (N := 8) rfl ?_); refine ev_box rfl 52 (.tmp 7) rfl (dz.toArray) rfl ?_; intro g_d wn1 hge hg hb; have HPn := Aside0.mk (HP.out.newB hb hg hge); clear HP; have HP := HPn; clear HPn; clear hge hg hb))
    have HPn := Aside0.mk (show Hp w _ [.blk wn1.heap.size (.cells #[.pointer none, .pointer (some ⟨g_d, 0, none⟩)] 37 (0, 0)), .blk g_d (.cells dz.toArray 52 (0, 0))] from HP.out.alloc (.cells #[.pointer none, .pointer (some ⟨g_d, 0, none⟩)] 37 (0, 0)))
    obtain ⟨g, hg⟩ : ∃ g, wn1.heap.size = g := ⟨_, rfl⟩
    obtain ⟨w2, hw2⟩ : ∃ w2, wn1.alloc (.cells #[.pointer none, .pointer (some ⟨g_d, 0, none⟩)] 37 (0, 0)) = w2 := ⟨_, rfl⟩
    clear HP
    rw [hw2, hg] at HPn
    rw [hw2, hg]
    clear hw2 hg
    go_loopg [5] 2 (fun kq v5 w' => ∃ (i : Nat), v5 = .int .i64 (i : Int) ∧ Aside0 (kq + i = 2) ∧ Aside0 (Hp w w' [.blk g (.cells #[.pointer none, .pointer (some ⟨g_d, 0, none⟩)] 37 (0, 0)), .blk g_d (.cells dz.toArray 52 (0, 0))]))
    case atStart => exact ⟨0, rfl, ⟨rfl⟩, HPn⟩
    clear HPn
    obtain ⟨i, rfl, HK, HP⟩ := hrel
    have hk := HK.out
    have h0 := blk_cell (HP.out.blk 0 rfl) 0
    have h1 := blk_cell (HP.out.blk 0 rfl) 1
    have HA0 := Aside0.mk (fun w' => c_absent_nil w')
    have HA1 := Aside0.mk (fun w' (hb : Below wr.heap.size wr w') => c_absent g_d false w' (by rw [cell_of_row w' g_d _ _ _ _ ((hb.block g_d (blk_lt (HP.out.blk 1 rfl))).trans (HP.out.blk 1 rfl))]; rfl))
    match i, hk with
    | 0, hk =>
      clear hk
      go_wp2_with fail
      refine (n_write _ _ _ (fun w' _ => HA0.out w')).mono ?_; rintro e w_ ⟨rfl, rfl⟩
      go_wp2_with fail
      refine (n_len _ _ (fun w' _ => HA0.out w')).mono ?_; rintro e w_ ⟨rfl, rfl⟩
      go_wp2_with fail
      refine (n_sum _ _ (fun w' _ => HA0.out w')).mono ?_; rintro e w4 ⟨rfl, hb⟩
      have HPn := Aside0.mk (HP.out.call hb)
      clear HP hb h0 h1 HA1
      go_wp2_with fail
      go_roundg 1
      case measure => have := HK.out; omega
      case rel => exact ⟨1, by first | rfl | simp, ⟨rfl⟩, HPn⟩
    | 1, hk =>
      clear hk
      go_wp2_with fail
      refine (n_write _ _ _ (fun w' h => HA1.out w' h)).mono ?_; rintro e w_ ⟨rfl, rfl⟩
      go_wp2_with fail
      refine (n_len _ _ (fun w' h => HA1.out w' h)).mono ?_; rintro e w_ ⟨rfl, rfl⟩
      go_wp2_with fail
      refine (n_sum _ _ (fun w' h => HA1.out w' h)).mono ?_; rintro e w4 ⟨rfl, hb⟩
      have HPn := Aside0.mk (HP.out.call hb)
      clear HP hb h0 h1 HA1
      go_wp2_with fail
      go_roundg 0
      case measure => have := HK.out; omega
      case rel => exact ⟨2, by first | rfl | simp, ⟨rfl⟩, HPn⟩
    | 2, hk =>
      clear hk HA1
      go_wp2_with fail
      refine (c_awake _).mono ?_; rintro e w4 ⟨rfl, hb⟩
      have HPn := Aside0.mk (HP.out.call hb)
      clear HP hb h0 h1
      go_wp2_with fail
      go_ret
      exact ⟨rfl, HPn.out.below⟩
    | i + 3, hk => omega
  · have d0 : decide ((b.length : Int) ≤ 200) = false := decide_eq_false (by omega)
    have HP := Aside0.mk (Hp.start w)
    clear hb hr hc hm
    go_enter Try.func7, Try.ntmps7
    go_wp2_with (first | ((with_reducible refine gate_dst (N := 8) rfl ?_); refine ev_box rfl 52 (.tmp 7) rfl (dz.toArray) rfl ?_; intro g_d wn1 hge hg hb; have HPn := Aside0.mk (HP.out.newB hb hg hge); clear HP; have HP := HPn; clear HPn; clear hge hg hb))
    have HPn := Aside0.mk (HP.out.alloc (.cells #[.pointer none, .pointer (some ⟨g_d, 0, none⟩)] 37 (0, 0)))
    obtain ⟨w2, hw2⟩ : ∃ w2, wn1.alloc (.cells #[.pointer none, .pointer (some ⟨g_d, 0, none⟩)] 37 (0, 0)) = w2 := ⟨_, rfl⟩
    clear HP
    rw [hw2] at HPn
    rw [hw2]
    have HB2 := Aside0.mk HPn.out.below
    clear hw2 HPn
    go_loopg [5] 0 (fun kq v5 w' => v5 = .int .i64 0 ∧ Aside0 (Below w.heap.size w w'))
    case atStart => exact ⟨rfl, HB2⟩
    clear HB2
    obtain ⟨rfl, HB⟩ := hrel
    go_wp2_with fail
    refine (c_awake _).mono ?_; rintro e w4 ⟨rfl, hb⟩
    have HBn := Aside0.mk (below_then HB.out HB.out.size hb)
    clear HB hb
    go_wp2_with fail
    go_ret
    exact ⟨rfl, HBn.out⟩
end Go.Proofs.Ytpnjbogpooejhaa.H
