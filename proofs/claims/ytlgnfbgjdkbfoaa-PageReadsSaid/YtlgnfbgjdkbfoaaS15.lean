import Derived.Test.YtlgnfbgjdkbfoaaS14
import Derived.Test.YtlgnfbgjdkbfoaaS12
import Derived.Test.YtlgnfbgjdkbfoaaS07
import Derived.Test.YtlgnfbgjdkbfoaaS05
import Derived.Test.YtlgnfbgjdkbfoaaS03
namespace Go.Proofs.Ytlgnfbgjdkbfoaa.Pg
open Go.RowKit Go.Proofs.Ytlgnfbgjdkbfoaa.XH Go.Proofs.Ytlgnfbgjdkbfoaa.Wd Go.Proofs.YtlgnfbgjdkbfoaaW.PrintWords Go.Proofs.YtlgnfbgjdkbfoaaW.PrintLast Go.Proofs.YtlgnfbgjdkbfoaaW.PrintMore Go.Proofs.YtlgnfbgjdkbfoaaXe Go.Proofs.YtlgnfbgjdkbfoaaXs
set_option linter.unusedVariables false
set_option linter.unusedSimpArgs false
attribute [local go_sem ↓] Go.wp_at_zero Go.wp_at_succ
set_option maxHeartbeats 8000000 in
set_option maxRecDepth 100000 in
theorem c_rpcheck (lv : Int) (A1 : Option Addr) (c1 : Nat) (l1 : List S55) (A2 : Option Addr) (c2 : Nat) (l2 : List S66) (w : World) (h1 : k55.C w A1 l1.length l1) (h2 : k66.C w A2 l2.length l2) (hc1 : l1.length ≤ c1) (hc2 : l2.length ≤ c2) (hl1 : l1.length ≤ 1000000) (hl2 : l2.length ≤ 1000000) (hs1 : ∀ y ∈ l1, y.f0.size ≤ 1000000000000) (hs2 : ∀ y ∈ l2, y.f0.size ≤ 1000000000000) :
    Calls Try.prog 43 #[.agg #[.int .i64 lv, .slice A1 l1.length c1, .slice A2 l2.length c2]] w fun e w' => e = .returned (.int .i64 (pageS lv l1 l2)) ∧ Below w.heap.size w w' := by
  have H1 := Aside0.mk h1
  have H2 := Aside0.mk h2
  have HL := Aside0.mk (And.intro hl1 hl2)
  have HSS := Aside0.mk (And.intro hs1 hs2)
  have HP := Aside0.mk (Hp.start w)
  have es : IntKind.i64.wrap ((l1.length : Int) + (l2.length : Int)) = (l1.length : Int) + (l2.length : Int) := IntWalk.i64_in _ (by omega)
  clear h1 h2 hl1 hl2 hc1 hc2 hs1 hs2
  go_enter Try.func43, Try.ntmps43
  go_wp2_with (first | ((with_reducible refine gate_dst (N := 1) rfl ?_); refine ev_box rfl 27 (.tmp 0) rfl (#[.int .i64 lv, .slice A1 l1.length c1, .slice A2 l2.length c2]) rfl ?_; intro g1 wa hge hg hb; have HPn := Aside0.mk (HP.out.newB hb hg hge); clear HP; have HP := HPn; clear HPn; clear hge hg hb; have hc0 : wa.cell? ⟨g1, 0, none⟩ = some (.int .i64 lv) := blk_cell (HP.out.blk 0 rfl) 0; have hc1 : wa.cell? ⟨g1, 1, none⟩ = some (.slice A1 l1.length c1) := blk_cell (HP.out.blk 0 rfl) 1; have hc2 : wa.cell? ⟨g1, 2, none⟩ = some (.slice A2 l2.length c2) := blk_cell (HP.out.blk 0 rfl) 2))
  refine (retconref17_level.calls lv (lvOk lv) wa (rlevel_f lv)).mono ?_; rintro e wf ⟨rfl, hd⟩
  obtain ⟨nd_, rfl⟩ := hd
  have HPn := Aside0.mk (HP.out.drewN nd_)
  clear HP hc0 hc1 hc2
  have HP := HPn
  clear HPn
  obtain ⟨wb, hwb⟩ : ∃ z, wa.drewN nd_ = z := ⟨_, rfl⟩
  rw [hwb] at HP ⊢
  clear hwb
  have hc0 : wb.cell? ⟨g1, 0, none⟩ = some (.int .i64 lv) := blk_cell (HP.out.blk 0 rfl) 0
  have hc1 : wb.cell? ⟨g1, 1, none⟩ = some (.slice A1 l1.length c1) := blk_cell (HP.out.blk 0 rfl) 1
  have hc2 : wb.cell? ⟨g1, 2, none⟩ = some (.slice A2 l2.length c2) := blk_cell (HP.out.blk 0 rfl) 2
  by_cases ko : lvOk lv = true
  case neg =>
    have kf : lvOk lv = false := by simpa using ko
    rw [kf]
    have HE := Aside0.mk (show pageS lv l1 l2 = 5 from by unfold pageS; rw [if_pos kf])
    go_wp2_with fail
    go_ret
    exact ⟨by rw [HE.out]; rfl, HP.out.below⟩
  rw [ko]
  by_cases k3 : l1.length + l2.length > 16
  · have d3 : decide ((16 : Int) < (l1.length : Int) + (l2.length : Int)) = true := decide_eq_true (by omega)
    have HE := Aside0.mk (show pageS lv l1 l2 = 3 from by unfold pageS; rw [if_neg (by rw [ko]; decide), if_pos k3])
    clear k3
    go_wp2_with fail
    go_ret
    exact ⟨by rw [HE.out]; rfl, HP.out.below⟩
  have d3 : decide ((16 : Int) < (l1.length : Int) + (l2.length : Int)) = false := decide_eq_false (by omega)
  have HE := Aside0.mk (show pageS lv l1 l2 = if lv = 0 then (if 0 < l2.length then 2 else if checkS l1 = 0 then 0 else 2) else (if 0 < l1.length then 2 else if linksS l2 = true then 0 else 2) from by unfold pageS; rw [if_neg (by rw [ko]; decide), if_neg k3])
  clear k3
  by_cases hlv : lv = 0
  · have d0 : decide (lv = 0) = true := decide_eq_true hlv
    have d0b : (lv == 0) = true := by simpa using hlv
    have d0c : decide (0 < lv) = false := decide_eq_false (by omega)
    rw [if_pos hlv] at HE
    clear hlv
    by_cases k2 : 0 < l2.length
    · have d2 : decide ((0 : Int) < (l2.length : Int)) = true := decide_eq_true (by omega)
      have d2n : decide (0 < l2.length) = true := decide_eq_true k2
      rw [if_pos k2] at HE
      clear k2
      go_wp2_with fail
      go_ret
      exact ⟨by rw [HE.out]; rfl, HP.out.below⟩
    have d2 : decide ((0 : Int) < (l2.length : Int)) = false := decide_eq_false (by omega)
    have d2n : decide (0 < l2.length) = false := decide_eq_false k2
    rw [if_neg k2] at HE
    clear k2
    go_wp2_with fail
    refine (c_rcheck A1 c1 l1 wb (Kd.C_below H1.out HP.out.below) HL.out.1 HSS.out.1).mono ?_; rintro e wg ⟨rfl, hb⟩
    have HPn := Aside0.mk (HP.out.call hb)
    clear HP hb hc0 hc1 hc2
    have HP := HPn
    clear HPn
    have hc0 : wg.cell? ⟨g1, 0, none⟩ = some (.int .i64 lv) := blk_cell (HP.out.blk 0 rfl) 0
    have hc1 : wg.cell? ⟨g1, 1, none⟩ = some (.slice A1 l1.length c1) := blk_cell (HP.out.blk 0 rfl) 1
    have hc2 : wg.cell? ⟨g1, 2, none⟩ = some (.slice A2 l2.length c2) := blk_cell (HP.out.blk 0 rfl) 2
    obtain ⟨q, hq⟩ : ∃ q, checkS l1 = q := ⟨_, rfl⟩
    rw [hq] at HE ⊢
    clear hq
    by_cases hq : q = 0
    · rw [if_pos hq] at HE
      have z1 : (q != 0) = false := by simpa using hq
      have z2 : (q == 0) = true := by simpa using hq
      have z3 : decide (q = 0) = true := decide_eq_true hq
      clear hq
      go_wp2_with fail
      go_ret
      exact ⟨by rw [HE.out]; rfl, HP.out.below⟩
    · rw [if_neg hq] at HE
      have z1 : (q != 0) = true := by simpa using hq
      have z2 : (q == 0) = false := by simpa using hq
      have z3 : decide (q = 0) = false := decide_eq_false hq
      clear hq
      go_wp2_with fail
      go_ret
      exact ⟨by rw [HE.out]; rfl, HP.out.below⟩
  · have d0 : decide (lv = 0) = false := decide_eq_false hlv
    have d0b : (lv == 0) = false := by simpa using hlv
    have d0c : decide (0 < lv) = true := decide_eq_true (by simp only [lvOk, Bool.and_eq_true, decide_eq_true_eq] at ko; omega)
    rw [if_neg hlv] at HE
    clear hlv
    by_cases k2 : 0 < l1.length
    · have d2 : decide ((0 : Int) < (l1.length : Int)) = true := decide_eq_true (by omega)
      have d2n : decide (0 < l1.length) = true := decide_eq_true k2
      rw [if_pos k2] at HE
      clear k2
      go_wp2_with fail
      go_ret
      exact ⟨by rw [HE.out]; rfl, HP.out.below⟩
    have d2 : decide ((0 : Int) < (l1.length : Int)) = false := decide_eq_false (by omega)
    have d2n : decide (0 < l1.length) = false := decide_eq_false k2
    rw [if_neg k2] at HE
    clear k2
    go_wp2_with fail
    refine (c_rlinks A2 c2 l2 wb (Kd.C_below H2.out HP.out.below) HL.out.2 HSS.out.2).mono ?_; rintro e wg ⟨rfl, hb⟩
    have HPn := Aside0.mk (HP.out.call hb)
    clear HP hb hc0 hc1 hc2
    have HP := HPn
    clear HPn
    cases hq : linksS l2 with
    | true =>
      rw [if_pos hq] at HE
      go_wp2_with fail
      go_ret
      exact ⟨by rw [HE.out]; rfl, HP.out.below⟩
    | false =>
      rw [if_neg (by rw [hq]; decide)] at HE
      go_wp2_with fail
      go_ret
      exact ⟨by rw [HE.out]; rfl, HP.out.below⟩
end Go.Proofs.Ytlgnfbgjdkbfoaa.Pg
namespace Go.Proofs.Ytlgnfbgjdkbfoaa.Pg
open Go.RowKit Go.Proofs.Ytlgnfbgjdkbfoaa.XH Go.Proofs.Ytlgnfbgjdkbfoaa.Wd Go.Proofs.YtlgnfbgjdkbfoaaW.PrintWords Go.Proofs.YtlgnfbgjdkbfoaaW.PrintLast Go.Proofs.YtlgnfbgjdkbfoaaW.PrintMore Go.Proofs.YtlgnfbgjdkbfoaaXe Go.Proofs.YtlgnfbgjdkbfoaaXs
set_option linter.unusedVariables false
set_option linter.unusedSimpArgs false
attribute [local go_sem ↓] Go.wp_at_zero Go.wp_at_succ
open Go.Proofs.Ytlgnfbgjdkbfoaa.Rf
def readQ (b : List Int) (lv : Int) : Nat → RS → List S55 → List S66 → RS × List S55 × List S66
  | 0, s, ps, ls => (s, ps, ls)
  | k + 1, s, ps, ls => if lv = 0 then readQ b lv k (rTxt b (rTxt b s 32).2 64).2 (ps ++ [⟨strOfNums (rTxt b s 32).1, strOfNums (rTxt b (rTxt b s 32).2 64).1⟩]) ls
      else readQ b lv k (rNum b (rId b (rTxt b s 32).2).2 1 65536 5).2 ps (ls ++ [⟨strOfNums (rTxt b s 32).1, mk63 (rId b (rTxt b s 32).2).1, (rNum b (rId b (rTxt b s 32).2).2 1 65536 5).1⟩])
theorem rTxt_stop {b : List Int} {s : RS} {most : Int} (h : s.err ≠ 0) : rTxt b s most = ([], s) := by unfold rTxt; rw [if_pos h]
theorem rId_stop {b : List Int} {s : RS} (h : s.err ≠ 0) : (rId b s).2 = s := by unfold rId; rw [if_pos h]
theorem rNum_stop {b : List Int} {s : RS} {low high above : Int} (h : s.err ≠ 0) : (rNum b s low high above).2 = s := by unfold rNum; rw [if_pos h]
theorem readQ_stop {b : List Int} {lv : Int} : ∀ (k : Nat) (s : RS) (ps : List S55) (ls : List S66), s.err ≠ 0 → (readQ b lv k s ps ls).1 = s
  | 0, _, _, _, _ => rfl
  | k + 1, s, ps, ls, h => by
    rw [readQ]
    split
    · rw [rTxt_stop h, rTxt_stop h]
      exact readQ_stop k s _ _ h
    · rw [rTxt_stop h, rId_stop h, rNum_stop h]
      exact readQ_stop k s _ _ h
theorem readQ_eq {b : List Int} {lv : Int} : ∀ (k : Nat) (s : RS) (ps : List S55) (ls : List S66), (readQ b lv k s ps ls).1 = (readL b lv k s ps ls).1 ∧ ((readL b lv k s ps ls).1.err = 0 → readQ b lv k s ps ls = readL b lv k s ps ls)
  | 0, _, _, _ => ⟨rfl, fun _ => rfl⟩
  | k + 1, s, ps, ls => by
    by_cases h : s.err = 0
    · rw [readQ, readL, if_pos h]
      by_cases hl : lv = 0
      · rw [if_pos hl, if_pos hl]
        exact readQ_eq k _ _ _
      · rw [if_neg hl, if_neg hl]
        exact readQ_eq k _ _ _
    · refine ⟨?_, fun h2 => ?_⟩
      · rw [readQ_stop _ _ _ _ h, readL_err _ _ _ _ h]
      · rw [readL_err _ _ _ _ h] at h2
        exact absurd h2 h
def Calm (b : List Int) (s : RS) : Prop := Stands b s ∧ (s.err = 0 → s.fat = 0)
theorem rNum_calm {b : List Int} {s : RS} (h : Calm b s) {low high above : Int} (hab : above ≠ 0) (hB : ∀ x ∈ b, 0 ≤ x ∧ x < 256) : Calm b (rNum b s low high above).2 := by
  refine ⟨rNum_st h.1 hab hB, ?_⟩
  unfold rNum
  split
  · exact h.2
  · split
    · exact h.2
    · rename_i he
      exact fun h0 => absurd h0 (num_err_at h.1.1 hab he).1
theorem rTxt_calm {b : List Int} {s : RS} (h : Calm b s) {most : Int} : Calm b (rTxt b s most).2 := by
  refine ⟨rTxt_st h.1, ?_⟩
  unfold rTxt
  split
  · exact h.2
  · split
    · exact h.2
    · rename_i he
      exact fun h0 => absurd h0 (txt_err_at h.1.1 he).1
theorem rId_calm {b : List Int} {s : RS} (h : Calm b s) : Calm b (rId b s).2 := by
  refine ⟨rId_st h.1, ?_⟩
  unfold rId
  split
  · exact h.2
  · split
    · exact h.2
    · rename_i he
      intro h0
      unfold idP at he
      split at he
      · simp only [Except.error.injEq, Prod.mk.injEq] at he
        rw [← he.1] at h0
        simp at h0
      · simp at he
theorem rTxt_len (b : List Int) (s : RS) (most : Int) : (rTxt b s most).1.length ≤ b.length := by
  unfold rTxt
  split
  · simp
  · split
    · rename_i he
      unfold txtP at he
      split at he
      · simp at he
      · split at he
        · simp at he
        · simp only [Except.ok.injEq, Prod.mk.injEq] at he
          rw [← he.1, List.length_drop, List.length_take]
          omega
    · simp
theorem end_err {b : List Int} {s : RS} (h : (rEnd b s).1 = 0) : s.err = 0 ∧ (s.fat = 0 → (rEnd b s).2 = 0) := by
  unfold rEnd at h ⊢
  split at h
  · simp at h
  · rename_i h2
    rw [if_neg h2]
    exact ⟨h, fun h => h⟩
set_option maxHeartbeats 8000000 in
set_option maxRecDepth 100000 in
theorem c_rread {w0 w : World} {Rs : List Res} (HP : Hp w0 w Rs) (A : Option Addr) (c : Nat) (b : List Int) (hb : b.length ≤ 1000000000000) (hB : ∀ x ∈ b, 0 ≤ x ∧ x < 256) (hcap : b.length ≤ c) (hR : ∀ w' : World, Below w0.heap.size w0 w' → Kd.C (Kd.int .u8) w' A b.length b) :
    Calls Try.prog 11 #[.slice A b.length c] w fun e w' => ∃ vp vl, e = .returned (.tuple #[.agg #[.int .i64 (readP b).1.1, vp, vl], .agg #[.int .i64 (readP b).2.1, .int .i64 (readP b).2.2]]) ∧ Hp w0 w' (.row k55 55 w0.heap.size vp (readP b).1.2.1 :: .row k66 66 w0.heap.size vl (readP b).1.2.2 :: Rs) := by
  have HPn := Aside0.mk ((HP.nilrow k66 66 (.slice none 0 0) (xs := []) (fun ok => Kd.R_nil _ _ _ _ _)).nilrow k55 55 (.slice none 0 0) (xs := []) (fun ok => Kd.R_nil _ _ _ _ _))
  have HBL := Aside0.mk (show b.length ≤ 140737488355328 by omega)
  have HB12 := Aside0.mk hb
  have HBB := Aside0.mk hB
  have HCA := Aside0.mk hcap
  have HR := Aside0.mk hR
  have HS0 := Aside0.mk (show Calm b rs0 from ⟨⟨by simp [rs0], fun h => absurd rfl h⟩, fun _ => rfl⟩)
  clear HP hb hB hcap hR
  have HP := HPn
  clear HPn
  go_enter Try.func11, Try.ntmps11
  go_wp2_with (first | ((with_reducible refine gate_dst (N := 2) rfl ?_); refine ev_alloc rfl 27 rfl (.agg #[.int .i64 0, .slice none 0 0, .slice none 0 0]) (by kernel_rfl) ?_; intro r2 wa hge hg hb; have HPn := Aside0.mk (HP.out.newB hb hg hge); clear HP; have HP := HPn; clear HPn; clear hge hg hb) | ((with_reducible refine gate_dst (N := 3) rfl ?_); refine ev_alloc rfl 30 rfl (.agg #[.int .i64 0, .int .i64 0]) (by kernel_rfl) ?_; intro r3 wb hge hg hb; have HPn := Aside0.mk (HP.out.newB hb hg hge); clear HP; have HP := HPn; clear HPn; clear hge hg hb))
  refine (c_qopen HP.out A c b).mono ?_; rintro e wc ⟨g, rfl, hpn⟩
  clear HP
  have HP := Aside0.mk hpn
  clear hpn
  go_wp2_with fail
  refine (c_qint HP.out 0 g A c b rs0 rfl HS0.out.1.1 HBB.out HBL.out HR.out 0 20).mono ?_; rintro e wc2 ⟨rfl, hpn⟩
  clear HP
  have HP := Aside0.mk (show Hp w0 wc2 (rRef g (.slice A b.length c) (hd1 b).2 :: .blk r3 (.cells #[.int .i64 0, .int .i64 0] 30 (0, 0)) :: .blk r2 (.cells #[.int .i64 0, .slice none 0 0, .slice none 0 0] 27 (0, 0)) :: .row k55 55 w0.heap.size (.slice none 0 0) [] :: .row k66 66 w0.heap.size (.slice none 0 0) [] :: Rs) from hpn)
  clear hpn
  rw [show (rNum b rs0 0 20 5).1 = (hd1 b).1 from rfl]
  have HS1 := Aside0.mk (show Calm b (hd1 b).2 from rNum_calm HS0.out (by decide) HBB.out)
  go_wp2_with (first | ((with_reducible refine gate_dst (N := 5) rfl ?_); refine ev_alloc rfl 27 rfl (.agg #[.int .i64 0, .slice none 0 0, .slice none 0 0]) (by kernel_rfl) ?_; intro gp wd hge hg hb; have HPn := Aside0.mk (HP.out.newB hb hg hge); clear HP; have HP := HPn; clear HPn; clear hge hg hb) | ((with_reducible refine gate_store (t := 27) (p := 5) rfl ?_); refine ev_store rfl 27 (.tmp 5) (.tmp 12) rfl rfl _ rfl (cells := #[.int .i64 (hd1 b).1, .slice none 0 0, .slice none 0 0]) rfl (HP.out.blk 0 rfl) (by kernel_rfl) rfl (by simp [Value.oneCell']) ?_; intro we hg hgr; have HPn := Aside0.mk (HP.out.setB 0 rfl hgr hg); clear HP; have HP := HPn; clear HPn; clear hg hgr))
  refine (c_qcount HP.out 1 g A c b (hd1 b).2 rfl HS1.out.1.1 HBB.out HBL.out HR.out 16).mono ?_; rintro e wf ⟨rfl, hpn⟩
  clear HP
  have HP := Aside0.mk (show Hp w0 wf (.blk gp (.cells #[.int .i64 (hd1 b).1, .slice none 0 0, .slice none 0 0] 27 (0, 0)) :: rRef g (.slice A b.length c) ((hd2 b).2) :: .blk r3 (.cells #[.int .i64 0, .int .i64 0] 30 (0, 0)) :: .blk r2 (.cells #[.int .i64 0, .slice none 0 0, .slice none 0 0] 27 (0, 0)) :: .row k55 55 w0.heap.size (.slice none 0 0) ([]) :: .row k66 66 w0.heap.size (.slice none 0 0) ([]) :: Rs) from hpn)
  clear hpn
  rw [show (rNum b (hd1 b).2 0 16 3).1 = (hd2 b).1 from rfl]
  have HNB := Aside0.mk (show 0 ≤ (hd2 b).1 ∧ (hd2 b).1 ≤ 16 from rNum_low b (hd1 b).2 (by decide) (by decide))
  have HS2 := Aside0.mk (show Calm b (hd2 b).2 from rNum_calm HS1.out (by decide) HBB.out)
  obtain ⟨RQ, hRQ⟩ : ∃ RQ, readQ b (hd1 b).1 (hd2 b).1.toNat (hd2 b).2 [] [] = RQ := ⟨_, rfl⟩
  have HQE := Aside0.mk (show RQ.1 = (items b).1 ∧ ((items b).1.err = 0 → RQ = items b) from by rw [← hRQ]; exact readQ_eq _ _ _ _)
  have HIT := Aside0.mk hRQ
  clear hRQ
  obtain ⟨N, hN⟩ : ∃ N : Nat, (hd2 b).1.toNat = N := ⟨_, rfl⟩
  have HNN := Aside0.mk (show (hd2 b).1 = (N : Int) by have := HNB.out; omega)
  have HN16 := Aside0.mk (show N ≤ 16 by have := HNB.out; omega)
  rw [hN] at HIT
  clear hN HNB
  go_wp2_with fail
  go_loopg [6] N (fun kq v6 w' => ∃ (n : Int) (s : RS) (ps : List S55) (ls : List S66) (vp vl : Value), v6 = .int .i64 n ∧ Aside0 (n = (kq : Int)) ∧ Aside0 (readQ b (hd1 b).1 kq s ps ls = RQ) ∧ Aside0 (ps.length + ls.length + kq ≤ 16) ∧ Aside0 (Calm b s) ∧ Aside0 ((∀ y ∈ ps, y.f0.size ≤ 1000000000000) ∧ ∀ y ∈ ls, y.f0.size ≤ 1000000000000) ∧ Aside0 (Hp w0 w' (.blk gp (.cells #[.int .i64 (hd1 b).1, vp, vl] 27 (0, 0)) :: rRef g (.slice A b.length c) (s) :: .blk r3 (.cells #[.int .i64 0, .int .i64 0] 30 (0, 0)) :: .blk r2 (.cells #[.int .i64 0, .slice none 0 0, .slice none 0 0] 27 (0, 0)) :: .row k55 55 w0.heap.size (vp) (ps) :: .row k66 66 w0.heap.size (vl) (ls) :: Rs)))
  case atStart => exact ⟨_, _, [], [], .slice none 0 0, .slice none 0 0, rfl, HNN, HIT, ⟨by have := HN16.out; simpa using this⟩, HS2, ⟨by simp⟩, HP⟩
  clear HP HIT HNN HN16
  obtain ⟨n, s, ps, ls, vp, vl, rfl, HN, HG, HLN, HST, HZS, HP⟩ := hrel
  have hgk : gk = 0 ∨ ∃ k, gk = k + 1 := by cases gk with | zero => exact .inl rfl | succ k => exact .inr ⟨k, rfl⟩
  rcases hgk with hgk | ⟨k, hgk⟩
  · have d1 : decide (0 < n) = false := decide_eq_false (by have := HN.out; omega)
    have HE := Aside0.mk (show RQ = (s, ps, ls) from by rw [← HG.out, hgk]; rfl)
    clear hgk HN HG
    go_wp2_with fail
    refine (c_qend HP.out 1 g A c b s rfl HST.out.1.1 HBB.out HBL.out).mono ?_; rintro e wg ⟨rfl, hpn⟩
    clear HP
    have HP := Aside0.mk hpn
    clear hpn
    have HSQ := Aside0.mk (show s = (items b).1 from by rw [← HQE.out.1, HE.out])
    by_cases hf : (rEnd b s).1 = 0
    case neg =>
      have k1 : ((rEnd b s).1 != 0) = true := by simpa using hf
      have k2 : ((rEnd b s).1 == 0) = false := by simpa using hf
      have k3 : decide ((rEnd b s).1 = 0) = false := decide_eq_false hf
      have HRP := Aside0.mk (show readP b = ((0, [], []), rEnd b s) from by unfold readP; rw [← HSQ.out, if_pos hf])
      clear hf
      go_upto_region 13 with (first | ((with_reducible refine gate_dst (N := 7) rfl ?_); refine ev_alloc rfl 30 rfl (.agg #[.int .i64 0, .int .i64 0]) (by kernel_rfl) ?_; intro g7 wh hge hg hb; have HPn := Aside0.mk (HP.out.newB hb hg hge); clear HP; have HP := HPn; clear HPn; clear hge hg hb) | ((with_reducible refine gate_store (t := 30) (p := 7) rfl ?_); refine ev_store rfl 30 (.tmp 7) (.tmp 45) rfl rfl _ rfl (cells := #[.int .i64 (rEnd b s).1, .int .i64 (rEnd b s).2]) rfl (HP.out.blk 0 rfl) (by kernel_rfl) rfl (by simp [Value.oneCell']) ?_; intro wi hg hgr; have HPn := Aside0.mk (HP.out.setB 0 rfl hgr hg); clear HP; have HP := HPn; clear HPn; clear hg hgr; have h7a : wi.cell? ⟨g7, 0, none⟩ = some (.int .i64 (rEnd b s).1) := blk_cell (HP.out.blk 0 rfl) 0))
      clear h7a
      refine held_named (S := (fun w' => w'.rangeAt g7 0 [.int .i64 ((rEnd b s).1), .int .i64 ((rEnd b s).2)])) (by kernel_rfl) (fun wd13 hwd13 => ?_)
      have HPn := Aside0.mk (HP.out.drewN 1)
      rw [← World.drew_is_drewN, hwd13] at HPn
      clear HP hwd13
      have HP := HPn
      clear HPn
      refine ⟨by (try dsimp only); exact rangeB (HP.out.blk 0 rfl), fun hHeld => ?_⟩
      refine wpAnyH_take (i := 0) (oi := ({ dst := (some 58), op := (Op.build 27 #[]), type := 27, pos := "ref.go:100", after := #[], guard := none } : Oper)) (v := ?_) rfl (by kernel_rfl) (by kernel_rfl) (by kernel_rfl) (fun _ _ _ h => h) (Or.inl ⟨by rfl, ?_⟩) hHeld ?_
      rotate_left
      · intro w_ hSw; (try dsimp only at hSw); go_simp; try (with_reducible rfl)
      try simp only [Act.put, List.setIfInBounds_toArray, List.set_cons_zero, List.set_cons_succ]
      refine wpAnyH_take (i := 1) (oi := ({ dst := (some 59), op := (Op.load 30 (Operand.tmp 7)), type := 30, pos := "ref.go:100", after := #[{ on := 2, ground := (Ground.gcOnly Departure.lateStores) }], guard := none } : Oper)) (v := _) rfl (by kernel_rfl) (by kernel_rfl) (by kernel_rfl) (fun _ _ _ h => h) (yieldsIf_load_mid (by rfl) _ _ rfl _ _ rfl _ _ (fun w hw => hw) Try.underlying30 rfl (by kernel_rfl)) hHeld ?_
      try simp only [Act.put, List.setIfInBounds_toArray, List.set_cons_zero, List.set_cons_succ]
      refine wpAnyH_ready (rs := [2]) (by kernel_rfl) (by simp) ?_
      refine AllReadyH.cons (o := ({ dst := none, op := (Op.store 27 (Operand.tmp 2) (Operand.tmp 58)), type := 0, pos := "ref.go:100", after := #[{ on := 0, ground := Ground.data }, { on := 0, ground := Ground.phase }, { on := 1, ground := (Ground.textOnly Departure.lateStores) }], guard := none } : Oper)) rfl (fun K hK => ?_) AllReadyH.nil
      refine st_store (by rfl) 27 _ _ (by rfl) rfl r2 (by rfl) (cells := #[.int .i64 0, .slice none 0 0, .slice none 0 0]) (by rfl) (HP.out.blk 4 rfl) (by kernel_rfl) rfl (by simp [Value.oneCell']) ?_; intro wm hg hgr; have HPn := Aside0.mk (HP.out.setB 4 rfl hgr hg); clear HP hg hgr; have HP := HPn; clear HPn
      clear hHeld
      refine hK.out _ _ ?_ (fun hHeld => ?_)
      · (try dsimp only); exact rangeB (HP.out.blk 0 rfl)
      clear hK K
      try simp only [Act.put, List.setIfInBounds_toArray, List.set_cons_zero, List.set_cons_succ]
      refine wpAnyH_ready (rs := [3]) (by kernel_rfl) (by simp) ?_
      refine AllReadyH.cons (o := ({ dst := none, op := (Op.store 30 (Operand.tmp 3) (Operand.tmp 59)), type := 0, pos := "ref.go:100", after := #[{ on := 1, ground := Ground.data }, { on := 2, ground := Ground.chain }, { on := 0, ground := Ground.phase }, { on := 1, ground := Ground.phase }, { on := 2, ground := Ground.phase }], guard := none } : Oper)) rfl (fun K hK => ?_) AllReadyH.nil
      refine st_store (by rfl) 30 _ _ (by rfl) rfl r3 (by rfl) (cells := #[.int .i64 ((rEnd b s).1), .int .i64 ((rEnd b s).2)]) (by rfl) (HP.out.blk 3 rfl) (by kernel_rfl) rfl (by simp [Value.oneCell']) ?_; intro wn hg hgr; have HPn := Aside0.mk (HP.out.setB 3 rfl hgr hg); clear HP hg hgr; have HP := HPn; clear HPn
      clear hHeld
      refine hK.out _ _ ?_ (fun hHeld => ?_)
      · (try dsimp only); exact rangeB (HP.out.blk 0 rfl)
      clear hK K
      try simp only [Act.put, List.setIfInBounds_toArray, List.set_cons_zero, List.set_cons_succ]
      refine wpAnyH_done (by kernel_rfl) ?_ _
      go_wp2_with fail
      refine bodyPost_ret (results_cells rfl _ _ rfl (HP.out.blk 4 rfl) Try.underlying27 rfl (by kernel_rfl) rfl (HP.out.blk 3 rfl) Try.underlying30 rfl (by kernel_rfl)) rfl ?_
      rw [HRP.out]
      exact ⟨.slice none 0 0, .slice none 0 0, rfl, ((Hp.dropN [_, _, _, _, _, _, _] HP.out).nilrow k66 66 (.slice none 0 0) (xs := []) (fun ok => Kd.R_nil _ _ _ _ _)).nilrow k55 55 (.slice none 0 0) (xs := []) (fun ok => Kd.R_nil _ _ _ _ _)⟩
    have k1 : ((rEnd b s).1 != 0) = false := by simpa using hf
    have k2 : ((rEnd b s).1 == 0) = true := by simpa using hf
    have k3 : decide ((rEnd b s).1 = 0) = true := decide_eq_true hf
    have HF := Aside0.mk hf
    have HEZ := Aside0.mk (end_err hf)
    have HIQ := Aside0.mk (show items b = (s, ps, ls) from by rw [← HQE.out.2 (by rw [← HSQ.out]; exact HEZ.out.1), HE.out])
    obtain ⟨Ap, cp, rfl⟩ := Kd.R_slice (HP.out.row 4 rfl)
    obtain ⟨Al, cl, rfl⟩ := Kd.R_slice (HP.out.row 5 rfl)
    clear hf
    go_wp2_with (first | ((with_reducible refine gate_dst (N := 7) rfl ?_); refine ev_alloc rfl 30 rfl (.agg #[.int .i64 0, .int .i64 0]) (by kernel_rfl) ?_; intro g7 wh hge hg hb; have HPn := Aside0.mk (HP.out.newB hb hg hge); clear HP; have HP := HPn; clear HPn; clear hge hg hb) | ((with_reducible refine gate_store (t := 30) (p := 7) rfl ?_); refine ev_store rfl 30 (.tmp 7) (.tmp 45) rfl rfl _ rfl (cells := #[.int .i64 (rEnd b s).1, .int .i64 (rEnd b s).2]) rfl (HP.out.blk 0 rfl) (by kernel_rfl) rfl (by simp [Value.oneCell']) ?_; intro wi hg hgr; have HPn := Aside0.mk (HP.out.setB 0 rfl hgr hg); clear HP; have HP := HPn; clear HPn; clear hg hgr; have h7a : wi.cell? ⟨g7, 0, none⟩ = some (.int .i64 (rEnd b s).1) := blk_cell (HP.out.blk 0 rfl) 0) | ((with_reducible refine gate_dst (N := 50) rfl ?_); refine ev_load rfl 27 (.tmp 5) rfl gp rfl (HP.out.blk 1 rfl) Try.underlying27 rfl (by kernel_rfl) ?_))
    have HCK := Aside0.mk (c_rpcheck (hd1 b).1 Ap cp ps Al cl ls wi (Kd.R_reads' (HP.out.row 5 rfl)).2.2 (Kd.R_reads' (HP.out.row 6 rfl)).2.2 (Kd.R_reads' (HP.out.row 5 rfl)).2.1 (Kd.R_reads' (HP.out.row 6 rfl)).2.1 (by have := HLN.out; omega) (by have := HLN.out; omega) (fun y hy => by have := HZS.out.1 y hy; omega) (fun y hy => by have := HZS.out.2 y hy; omega))
    refine HCK.out.mono ?_; rintro e wj ⟨rfl, hb⟩
    have HPn := Aside0.mk (HP.out.call hb)
    clear HP hb HCK h7a
    have HP := HPn
    clear HPn
    by_cases hp0 : pageS (hd1 b).1 ps ls = 0
    · have HRP := Aside0.mk (show readP b = (((hd1 b).1, ps, ls), (0, 0)) from by unfold readP; rw [HIQ.out, if_neg (by simpa using HF.out), if_neg (by simpa using hp0)])
      have m1 : (pageS (hd1 b).1 ps ls != 0) = false := by simpa using hp0
      have m2 : (pageS (hd1 b).1 ps ls == 0) = true := by simpa using hp0
      have m3 : decide (pageS (hd1 b).1 ps ls = 0) = true := decide_eq_true hp0
      have h7a : wj.cell? ⟨g7, 0, none⟩ = some (.int .i64 (rEnd b s).1) := blk_cell (HP.out.blk 0 rfl) 0
      clear hp0
      go_upto_region 14 with fail
      clear h7a
      refine held_named (S := (fun w' => w'.rangeAt g7 0 [.int .i64 ((rEnd b s).1), .int .i64 ((rEnd b s).2)] ∧ w'.rangeAt gp 0 [.int .i64 (hd1 b).1, .slice Ap ps.length cp, .slice Al ls.length cl])) (by kernel_rfl) (fun wd14 hwd14 => ?_)
      have HPn := Aside0.mk (HP.out.drewN 1)
      rw [← World.drew_is_drewN, hwd14] at HPn
      clear HP hwd14
      have HP := HPn
      clear HPn
      refine ⟨by (try dsimp only); exact ⟨rangeB (HP.out.blk 0 rfl), rangeB (HP.out.blk 1 rfl)⟩, fun hHeld => ?_⟩
      refine wpAnyH_take (i := 0) (oi := ({ dst := (some 60), op := (Op.load 27 (Operand.tmp 5)), type := 27, pos := "ref.go:102", after := #[], guard := none } : Oper)) (v := _) rfl (by kernel_rfl) (by kernel_rfl) (by kernel_rfl) (fun _ _ _ h => h) (yieldsIf_load_mid (by rfl) _ _ rfl _ _ rfl _ _ (fun w hw => hw.2) Try.underlying27 rfl (by kernel_rfl)) hHeld ?_
      try simp only [Act.put, List.setIfInBounds_toArray, List.set_cons_zero, List.set_cons_succ]
      refine wpAnyH_take (i := 1) (oi := ({ dst := (some 61), op := (Op.load 30 (Operand.tmp 7)), type := 30, pos := "ref.go:102", after := #[{ on := 2, ground := (Ground.gcOnly Departure.lateStores) }], guard := none } : Oper)) (v := _) rfl (by kernel_rfl) (by kernel_rfl) (by kernel_rfl) (fun _ _ _ h => h) (yieldsIf_load_mid (by rfl) _ _ rfl _ _ rfl _ _ (fun w hw => hw.1) Try.underlying30 rfl (by kernel_rfl)) hHeld ?_
      try simp only [Act.put, List.setIfInBounds_toArray, List.set_cons_zero, List.set_cons_succ]
      refine wpAnyH_ready (rs := [2]) (by kernel_rfl) (by simp) ?_
      refine AllReadyH.cons (o := ({ dst := none, op := (Op.store 27 (Operand.tmp 2) (Operand.tmp 60)), type := 0, pos := "ref.go:102", after := #[{ on := 0, ground := Ground.data }, { on := 0, ground := Ground.phase }, { on := 1, ground := (Ground.textOnly Departure.lateStores) }], guard := none } : Oper)) rfl (fun K hK => ?_) AllReadyH.nil
      refine st_store (by rfl) 27 _ _ (by rfl) rfl r2 (by rfl) (cells := #[.int .i64 (hd1 b).1, .slice Ap ps.length cp, .slice Al ls.length cl]) (by rfl) (HP.out.blk 4 rfl) (by kernel_rfl) rfl (by simp [Value.oneCell']) ?_; intro wm hg hgr; have HPn := Aside0.mk (HP.out.setB 4 rfl hgr hg); clear HP hg hgr; have HP := HPn; clear HPn
      clear hHeld
      refine hK.out _ _ ?_ (fun hHeld => ?_)
      · (try dsimp only); exact ⟨rangeB (HP.out.blk 0 rfl), rangeB (HP.out.blk 1 rfl)⟩
      clear hK K
      try simp only [Act.put, List.setIfInBounds_toArray, List.set_cons_zero, List.set_cons_succ]
      refine wpAnyH_ready (rs := [3]) (by kernel_rfl) (by simp) ?_
      refine AllReadyH.cons (o := ({ dst := none, op := (Op.store 30 (Operand.tmp 3) (Operand.tmp 61)), type := 0, pos := "ref.go:102", after := #[{ on := 1, ground := Ground.data }, { on := 2, ground := Ground.chain }, { on := 0, ground := Ground.phase }, { on := 1, ground := Ground.phase }, { on := 2, ground := Ground.phase }], guard := none } : Oper)) rfl (fun K hK => ?_) AllReadyH.nil
      refine st_store (by rfl) 30 _ _ (by rfl) rfl r3 (by rfl) (cells := #[.int .i64 ((rEnd b s).1), .int .i64 ((rEnd b s).2)]) (by rfl) (HP.out.blk 3 rfl) (by kernel_rfl) rfl (by simp [Value.oneCell']) ?_; intro wn hg hgr; have HPn := Aside0.mk (HP.out.setB 3 rfl hgr hg); clear HP hg hgr; have HP := HPn; clear HPn
      clear hHeld
      refine hK.out _ _ ?_ (fun hHeld => ?_)
      · (try dsimp only); exact ⟨rangeB (HP.out.blk 0 rfl), rangeB (HP.out.blk 1 rfl)⟩
      clear hK K
      try simp only [Act.put, List.setIfInBounds_toArray, List.set_cons_zero, List.set_cons_succ]
      refine wpAnyH_done (by kernel_rfl) ?_ _
      go_wp2_with fail
      refine bodyPost_ret (results_cells rfl _ _ rfl (HP.out.blk 4 rfl) Try.underlying27 rfl (by kernel_rfl) rfl (HP.out.blk 3 rfl) Try.underlying30 rfl (by kernel_rfl)) rfl ?_
      rw [HRP.out]
      exact ⟨_, _, by rw [HF.out, HEZ.out.2 (HST.out.2 HEZ.out.1)], Hp.dropN [_, _, _, _, _] HP.out⟩
    · have HRP := Aside0.mk (show readP b = ((0, [], []), (2, 0)) from by unfold readP; rw [HIQ.out, if_neg (by simpa using HF.out), if_pos (by simpa using hp0)])
      have m1 : (pageS (hd1 b).1 ps ls != 0) = true := by simpa using hp0
      have m2 : (pageS (hd1 b).1 ps ls == 0) = false := by simpa using hp0
      have m3 : decide (pageS (hd1 b).1 ps ls = 0) = false := decide_eq_false hp0
      clear hp0
      go_upto_region 13 with (first | ((with_reducible refine gate_store (t := 30) (p := 7) rfl ?_); refine ev_store rfl 30 (.tmp 7) (.tmp 54) rfl rfl _ rfl (cells := #[.int .i64 2, .int .i64 0]) rfl (HP.out.blk 0 rfl) (by kernel_rfl) rfl (by simp [Value.oneCell']) ?_; intro wk2 hg hgr; have HPn := Aside0.mk (HP.out.setB 0 rfl hgr hg); clear HP; have HP := HPn; clear HPn; clear hg hgr; have h7a : wk2.cell? ⟨g7, 0, none⟩ = some (.int .i64 2) := blk_cell (HP.out.blk 0 rfl) 0))
      clear h7a
      refine held_named (S := (fun w' => w'.rangeAt g7 0 [.int .i64 (2), .int .i64 (0)])) (by kernel_rfl) (fun wd13 hwd13 => ?_)
      have HPn := Aside0.mk (HP.out.drewN 1)
      rw [← World.drew_is_drewN, hwd13] at HPn
      clear HP hwd13
      have HP := HPn
      clear HPn
      refine ⟨by (try dsimp only); exact rangeB (HP.out.blk 0 rfl), fun hHeld => ?_⟩
      refine wpAnyH_take (i := 0) (oi := ({ dst := (some 58), op := (Op.build 27 #[]), type := 27, pos := "ref.go:100", after := #[], guard := none } : Oper)) (v := ?_) rfl (by kernel_rfl) (by kernel_rfl) (by kernel_rfl) (fun _ _ _ h => h) (Or.inl ⟨by rfl, ?_⟩) hHeld ?_
      rotate_left
      · intro w_ hSw; (try dsimp only at hSw); go_simp; try (with_reducible rfl)
      try simp only [Act.put, List.setIfInBounds_toArray, List.set_cons_zero, List.set_cons_succ]
      refine wpAnyH_take (i := 1) (oi := ({ dst := (some 59), op := (Op.load 30 (Operand.tmp 7)), type := 30, pos := "ref.go:100", after := #[{ on := 2, ground := (Ground.gcOnly Departure.lateStores) }], guard := none } : Oper)) (v := _) rfl (by kernel_rfl) (by kernel_rfl) (by kernel_rfl) (fun _ _ _ h => h) (yieldsIf_load_mid (by rfl) _ _ rfl _ _ rfl _ _ (fun w hw => hw) Try.underlying30 rfl (by kernel_rfl)) hHeld ?_
      try simp only [Act.put, List.setIfInBounds_toArray, List.set_cons_zero, List.set_cons_succ]
      refine wpAnyH_ready (rs := [2]) (by kernel_rfl) (by simp) ?_
      refine AllReadyH.cons (o := ({ dst := none, op := (Op.store 27 (Operand.tmp 2) (Operand.tmp 58)), type := 0, pos := "ref.go:100", after := #[{ on := 0, ground := Ground.data }, { on := 0, ground := Ground.phase }, { on := 1, ground := (Ground.textOnly Departure.lateStores) }], guard := none } : Oper)) rfl (fun K hK => ?_) AllReadyH.nil
      refine st_store (by rfl) 27 _ _ (by rfl) rfl r2 (by rfl) (cells := #[.int .i64 0, .slice none 0 0, .slice none 0 0]) (by rfl) (HP.out.blk 4 rfl) (by kernel_rfl) rfl (by simp [Value.oneCell']) ?_; intro wm hg hgr; have HPn := Aside0.mk (HP.out.setB 4 rfl hgr hg); clear HP hg hgr; have HP := HPn; clear HPn
      clear hHeld
      refine hK.out _ _ ?_ (fun hHeld => ?_)
      · (try dsimp only); exact rangeB (HP.out.blk 0 rfl)
      clear hK K
      try simp only [Act.put, List.setIfInBounds_toArray, List.set_cons_zero, List.set_cons_succ]
      refine wpAnyH_ready (rs := [3]) (by kernel_rfl) (by simp) ?_
      refine AllReadyH.cons (o := ({ dst := none, op := (Op.store 30 (Operand.tmp 3) (Operand.tmp 59)), type := 0, pos := "ref.go:100", after := #[{ on := 1, ground := Ground.data }, { on := 2, ground := Ground.chain }, { on := 0, ground := Ground.phase }, { on := 1, ground := Ground.phase }, { on := 2, ground := Ground.phase }], guard := none } : Oper)) rfl (fun K hK => ?_) AllReadyH.nil
      refine st_store (by rfl) 30 _ _ (by rfl) rfl r3 (by rfl) (cells := #[.int .i64 (2), .int .i64 (0)]) (by rfl) (HP.out.blk 3 rfl) (by kernel_rfl) rfl (by simp [Value.oneCell']) ?_; intro wn hg hgr; have HPn := Aside0.mk (HP.out.setB 3 rfl hgr hg); clear HP hg hgr; have HP := HPn; clear HPn
      clear hHeld
      refine hK.out _ _ ?_ (fun hHeld => ?_)
      · (try dsimp only); exact rangeB (HP.out.blk 0 rfl)
      clear hK K
      try simp only [Act.put, List.setIfInBounds_toArray, List.set_cons_zero, List.set_cons_succ]
      refine wpAnyH_done (by kernel_rfl) ?_ _
      go_wp2_with fail
      refine bodyPost_ret (results_cells rfl _ _ rfl (HP.out.blk 4 rfl) Try.underlying27 rfl (by kernel_rfl) rfl (HP.out.blk 3 rfl) Try.underlying30 rfl (by kernel_rfl)) rfl ?_
      rw [HRP.out]
      exact ⟨.slice none 0 0, .slice none 0 0, rfl, ((Hp.dropN [_, _, _, _, _, _, _] HP.out).nilrow k66 66 (.slice none 0 0) (xs := []) (fun ok => Kd.R_nil _ _ _ _ _)).nilrow k55 55 (.slice none 0 0) (xs := []) (fun ok => Kd.R_nil _ _ _ _ _)⟩
  · have d1 : decide (0 < n) = true := decide_eq_true (by have := HN.out; omega)
    have e1 : IntKind.i64.wrap (n - 1) = n - 1 := IntWalk.i64_in _ (by have h1 := HN.out; have h2 := HLN.out; omega)
    have HGK := Aside0.mk hgk
    clear hgk
    have hc0 : wr.cell? ⟨gp, 0, none⟩ = some (.int .i64 (hd1 b).1) := blk_cell (HP.out.blk 0 rfl) 0
    have HTL := Aside0.mk (rTxt_len b s 32)
    by_cases hlv : (hd1 b).1 = 0
    · have d4 : ((hd1 b).1 == 0) = true := by simpa using hlv
      have d5 : decide ((hd1 b).1 = 0) = true := decide_eq_true hlv
      have HLV := Aside0.mk hlv
      clear hlv
      go_upto_region 7 with fail
      clear hc0
      obtain ⟨Ap, cp, rfl⟩ := Kd.R_slice (HP.out.row 4 rfl)
      refine last_named (ds := [10]) (S := (fun w' => w'.cell? ⟨gp, 1, none⟩ = some (.slice Ap ps.length cp))) (by kernel_rfl) (fun wd7 hwd7 => ?_)
      have HPn := Aside0.mk (HP.out.drewN 1)
      rw [← World.drew_is_drewN, hwd7] at HPn
      clear HP hwd7
      have HP := HPn
      clear HPn
      refine ⟨by (try dsimp only); first | exact blk_cell (HP.out.blk 1 rfl) 1 | exact blk_cell (HP.out.blk 0 rfl) 1, fun hHeld => ?_⟩
      refine wpAnyLast_take (i := 0) (oi := ({ dst := (some 22), op := (Op.fieldAddr 27 (Operand.tmp 5) 1), type := 0, pos := "ref.go:90", after := #[], guard := none } : Oper)) (v := ?_) rfl (by kernel_rfl) (by kernel_rfl) (by kernel_rfl) (by kernel_rfl) (by kernel_rfl) (fun _ _ _ h => h) (Or.inl ⟨by rfl, ?_⟩) hHeld ?_
      rotate_left
      · intro w_ hSw; (try dsimp only at hSw); go_simp; try (with_reducible rfl)
      try simp only [Act.put, List.setIfInBounds_toArray, List.set_cons_zero, List.set_cons_succ]
      refine wpAnyLast_take (i := 1) (oi := ({ dst := (some 23), op := (Op.load 24 (Operand.tmp 22)), type := 24, pos := "ref.go:90", after := #[{ on := 0, ground := Ground.data }], guard := none } : Oper)) (v := ?_) rfl (by kernel_rfl) (by kernel_rfl) (by kernel_rfl) (by kernel_rfl) (by kernel_rfl) (fun _ _ _ h => h) (Or.inl ⟨by rfl, ?_⟩) hHeld ?_
      rotate_left
      · intro w_ hSw; (try dsimp only at hSw); go_simp; try (with_reducible rfl)
      try simp only [Act.put, List.setIfInBounds_toArray, List.set_cons_zero, List.set_cons_succ]
      refine wpAnyLast_take (i := 2) (oi := ({ dst := (some 24), op := (Op.move (Operand.tmp 4)), type := 67, pos := "ref.go:90", after := #[], guard := none } : Oper)) (v := ?_) rfl (by kernel_rfl) (by kernel_rfl) (by kernel_rfl) (by kernel_rfl) (by kernel_rfl) (fun _ _ _ h => h) (Or.inl ⟨by rfl, ?_⟩) hHeld ?_
      rotate_left
      · intro w_ hSw; (try dsimp only at hSw); go_simp; try (with_reducible rfl)
      try simp only [Act.put, List.setIfInBounds_toArray, List.set_cons_zero, List.set_cons_succ]
      refine wpAnyLast_take (i := 4) (oi := ({ dst := (some 26), op := (Op.move (Operand.tmp 4)), type := 67, pos := "ref.go:90", after := #[], guard := none } : Oper)) (v := ?_) rfl (by kernel_rfl) (by kernel_rfl) (by kernel_rfl) (by kernel_rfl) (by kernel_rfl) (fun _ _ _ h => h) (Or.inl ⟨by rfl, ?_⟩) hHeld ?_
      rotate_left
      · intro w_ hSw; (try dsimp only at hSw); go_simp; try (with_reducible rfl)
      try simp only [Act.put, List.setIfInBounds_toArray, List.set_cons_zero, List.set_cons_succ]
      refine wpAnyLast_ready (rs := [3]) (by kernel_rfl) (by simp) ?_
      refine AllReadyL.cons (o := ({ dst := (some 25), op := (Op.call { callee := (Callee.value (Operand.func 40)), args := #[(Operand.tmp 24), (Operand.const (Value.int IntKind.i64 32))], argTypes := #[67, 3] }), type := 9, pos := "ref.go:90", after := #[{ on := 2, ground := Ground.data }], guard := none } : Oper)) rfl (by decide) (fun K hK => ?_) AllReadyL.nil
      go_simp
      go_at_call 40; refine (c_qtext HP.out 1 g A c b (s) rfl HST.out.1.1 HBB.out HBL.out HR.out HCA.out 32 (by decide) (by decide)).mono ?_; rintro e wv_ ⟨rfl, hpn⟩; clear HP; have HP := Aside0.mk (show Hp w0 wv_ (.blk gp (.cells #[.int .i64 (hd1 b).1, .slice Ap ps.length cp, vl] 27 (0, 0)) :: rRef g (.slice A b.length c) ((rTxt b s 32).2) :: .blk r3 (.cells #[.int .i64 0, .int .i64 0] 30 (0, 0)) :: .blk r2 (.cells #[.int .i64 0, .slice none 0 0, .slice none 0 0] 27 (0, 0)) :: .row k55 55 w0.heap.size (.slice Ap ps.length cp) (ps) :: .row k66 66 w0.heap.size (vl) (ls) :: Rs) from hpn); clear hpn
      go_wp2_with fail
      clear hHeld
      refine hK.out _ _ ?_ (fun hHeld => ?_)
      · (try dsimp only); first | exact blk_cell (HP.out.blk 1 rfl) 1 | exact blk_cell (HP.out.blk 0 rfl) 1
      clear hK K
      try simp only [Act.put, List.setIfInBounds_toArray, List.set_cons_zero, List.set_cons_succ]
      refine wpAnyLast_ready (rs := [5]) (by kernel_rfl) (by simp) ?_
      refine AllReadyL.cons (o := ({ dst := (some 27), op := (Op.call { callee := (Callee.value (Operand.func 40)), args := #[(Operand.tmp 26), (Operand.const (Value.int IntKind.i64 64))], argTypes := #[67, 3] }), type := 9, pos := "ref.go:90", after := #[{ on := 4, ground := Ground.data }, { on := 3, ground := Ground.chain }], guard := none } : Oper)) rfl (by decide) (fun K hK => ?_) AllReadyL.nil
      go_simp
      go_at_call 40; refine (c_qtext HP.out 1 g A c b ((rTxt b s 32).2) rfl (rTxt_calm HST.out).1.1 HBB.out HBL.out HR.out HCA.out 64 (by decide) (by decide)).mono ?_; rintro e w_ ⟨rfl, hpn⟩; clear HP; have HP := Aside0.mk (show Hp w0 w_ (.blk gp (.cells #[.int .i64 (hd1 b).1, .slice Ap ps.length cp, vl] 27 (0, 0)) :: rRef g (.slice A b.length c) ((rTxt b (rTxt b s 32).2 64).2) :: .blk r3 (.cells #[.int .i64 0, .int .i64 0] 30 (0, 0)) :: .blk r2 (.cells #[.int .i64 0, .slice none 0 0, .slice none 0 0] 27 (0, 0)) :: .row k55 55 w0.heap.size (.slice Ap ps.length cp) (ps) :: .row k66 66 w0.heap.size (vl) (ls) :: Rs) from hpn); clear hpn
      go_wp2_with fail
      clear hHeld
      refine hK.out _ _ ?_ (fun hHeld => ?_)
      · (try dsimp only); first | exact blk_cell (HP.out.blk 1 rfl) 1 | exact blk_cell (HP.out.blk 0 rfl) 1
      clear hK K
      try simp only [Act.put, List.setIfInBounds_toArray, List.set_cons_zero, List.set_cons_succ]
      refine wpAnyLast_take (i := 6) (oi := ({ dst := (some 28), op := (Op.build 55 #[(0, (Operand.tmp 25)), (1, (Operand.tmp 27))]), type := 55, pos := "ref.go:90", after := #[{ on := 3, ground := Ground.data }, { on := 5, ground := Ground.data }], guard := none } : Oper)) (v := .agg (c55 (⟨strOfNums (rTxt b s 32).1, strOfNums (rTxt b (rTxt b s 32).2 64).1⟩ : S55)).toArray) rfl (by kernel_rfl) (by kernel_rfl) (by kernel_rfl) (by kernel_rfl) (by kernel_rfl) (fun _ _ _ h => h) (Or.inl ⟨by rfl, fun w_ hSw => run_op_build _ _ (by rfl) [(0, .string (strOfNums (rTxt b s 32).1)), (1, .string (strOfNums (rTxt b (rTxt b s 32).2 64).1))] (by rfl) (built_55 _ _)⟩) hHeld ?_
      try simp only [Act.put, List.setIfInBounds_toArray, List.set_cons_zero, List.set_cons_succ]
      refine wpAnyLast_ready (rs := [7]) (by kernel_rfl) (by simp) ?_
      refine AllReadyL.cons (o := ({ dst := (some 29), op := (Op.buildSlice 24 1 #[(0, (Operand.tmp 28))]), type := 24, pos := "ref.go:90", after := #[{ on := 6, ground := Ground.data }], guard := none } : Oper)) rfl (by decide) (fun K hK => ?_) AllReadyL.nil
      refine st_run (by rfl) (op_s55 (⟨strOfNums (rTxt b s 32).1, strOfNums (rTxt b (rTxt b s 32).2 64).1⟩ : S55) (x := .tmp 28) (by exact ⟨rfl, rfl⟩)) ?_; obtain ⟨w1, hw1⟩ : ∃ z, w_.alloc (.cells (c55 (⟨strOfNums (rTxt b s 32).1, strOfNums (rTxt b (rTxt b s 32).2 64).1⟩ : S55)).toArray 55) = z := ⟨_, rfl⟩; obtain ⟨g1, hg1⟩ : ∃ z, w_.heap.size = z := ⟨_, rfl⟩; have HPn := Aside0.mk (HP.out.alloc (.cells (c55 (⟨strOfNums (rTxt b s 32).1, strOfNums (rTxt b (rTxt b s 32).2 64).1⟩ : S55)).toArray 55 (0, 0))); rw [hw1, hg1] at HPn; rw [hw1, hg1]; clear HP hw1 hg1; have HP := HPn; clear HPn
      clear hHeld
      refine hK.out _ _ ?_ (fun hHeld => ?_)
      · (try dsimp only); first | exact blk_cell (HP.out.blk 1 rfl) 1 | exact blk_cell (HP.out.blk 0 rfl) 1
      clear hK K
      try simp only [Act.put, List.setIfInBounds_toArray, List.set_cons_zero, List.set_cons_succ]
      refine wpAnyLast_ready (rs := [8]) (by kernel_rfl) (by simp) ?_
      refine AllReadyL.cons (o := ({ dst := (some 30), op := (Op.call { callee := (Callee.builtin Builtin.append), args := #[(Operand.tmp 23), (Operand.tmp 29)], argTypes := #[24, 24] }), type := 24, pos := "ref.go:90", after := #[{ on := 1, ground := Ground.data }, { on := 7, ground := Ground.data }, { on := 5, ground := Ground.chain }], guard := none } : Oper)) rfl (by decide) (fun K hK => ?_) AllReadyL.nil
      refine st_append plain_55 HP.out 5 (by rfl) _ _ 24 55 _ 32 (by rfl) Try.underlying24 info55 rfl (by decide) (by decide) (.slice Ap ps.length cp) ps [(⟨strOfNums (rTxt b s 32).1, strOfNums (rTxt b (rTxt b s 32).2 64).1⟩ : S55)] (some ⟨g1, 0, none⟩) 1 1 (by rfl) (by rfl) rfl (C_blk1 k55 (HP.out.blk 0 rfl) (k55_mk _ (⟨strOfNums (rTxt b s 32).1, strOfNums (rTxt b (rTxt b s 32).2 64).1⟩ : S55))) (by have := HLN.out; omega) ?_; intro v2 w2 hpn; clear HP; have HP := Aside0.mk hpn; clear hpn; obtain ⟨A2, c2, rfl⟩ := Kd.R_slice (HP.out.row 5 rfl); simp only [List.length_append, List.length_cons, List.length_nil, Nat.zero_add] at HP; (try simp only [List.length_append, List.length_cons, List.length_nil, Nat.zero_add])
      clear hHeld
      refine hK.out _ _ ?_ (fun hHeld => ?_)
      · (try dsimp only); first | exact blk_cell (HP.out.blk 1 rfl) 1 | exact blk_cell (HP.out.blk 0 rfl) 1
      clear hK K
      try simp only [Act.put, List.setIfInBounds_toArray, List.set_cons_zero, List.set_cons_succ]
      refine wpAnyLast_take (i := 9) (oi := ({ dst := (some 31), op := (Op.fieldAddr 27 (Operand.tmp 5) 1), type := 0, pos := "ref.go:90", after := #[{ on := 0, ground := Ground.phase }, { on := 1, ground := Ground.phase }, { on := 2, ground := Ground.phase }, { on := 3, ground := Ground.phase }, { on := 4, ground := Ground.phase }, { on := 5, ground := Ground.phase }, { on := 6, ground := Ground.phase }, { on := 7, ground := Ground.phase }, { on := 8, ground := Ground.phase }], guard := none } : Oper)) (v := ?_) rfl (by kernel_rfl) (by kernel_rfl) (by kernel_rfl) (by kernel_rfl) (by kernel_rfl) (fun _ _ _ h => h) (Or.inl ⟨by rfl, ?_⟩) hHeld ?_
      rotate_left
      · intro w_ hSw; (try dsimp only at hSw); go_simp; try (with_reducible rfl)
      try simp only [Act.put, List.setIfInBounds_toArray, List.set_cons_zero, List.set_cons_succ]
      refine wpAnyLast_ready (rs := [10]) (by kernel_rfl) (by simp) ?_
      refine AllReadyL.cons_last (o := ({ dst := none, op := (Op.store 24 (Operand.tmp 31) (Operand.tmp 30)), type := 0, pos := "ref.go:90", after := #[{ on := 9, ground := Ground.data }, { on := 8, ground := Ground.data }, { on := 8, ground := Ground.chain }, { on := 0, ground := Ground.phase }, { on := 1, ground := Ground.phase }, { on := 2, ground := Ground.phase }, { on := 3, ground := Ground.phase }, { on := 4, ground := Ground.phase }, { on := 5, ground := Ground.phase }, { on := 6, ground := Ground.phase }, { on := 7, ground := Ground.phase }, { on := 8, ground := Ground.phase }], guard := none } : Oper)) rfl (by decide) (fun K hK => ?_) AllReadyL.nil
      have hc6 := blk_cell (HP.out.blk 1 rfl) 1; have hf6 := blk_frozen (HP.out.blk 1 rfl) 1; go_simp; have HPn := Aside0.mk (HP.out.setCell 1 rfl 1 (.slice A2 (ps.length + 1) c2)); clear HP hc6 hf6; have HP := HPn; clear HPn
      clear hHeld
      refine hK.out _ _ ?_
      clear hK K
      try simp only [Act.put, List.setIfInBounds_toArray, List.set_cons_zero, List.set_cons_succ]
      refine wpAnyLast_done (by kernel_rfl) ?_ _
      have HPn := Aside0.mk HP.out.drop1
      clear HP
      go_wp2_with fail
      go_roundg k
      case measure => have := HGK.out; omega
      case rel => exact ⟨n - 1, _, ps ++ [(⟨strOfNums (rTxt b s 32).1, strOfNums (rTxt b (rTxt b s 32).2 64).1⟩ : S55)], ls, .slice A2 (ps.length + 1) c2, vl, rfl, ⟨by have h1 := HN.out; have h2 := HGK.out; omega⟩, ⟨by have h := HG.out; rw [HGK.out] at h; rw [← h, readQ, if_pos HLV.out]⟩, ⟨by have h1 := HLN.out; have h2 := HGK.out; simp only [List.length_append, List.length_cons, List.length_nil]; omega⟩, ⟨rTxt_calm (rTxt_calm HST.out)⟩, ⟨by
        refine ⟨fun z hz => ?_, HZS.out.2⟩
        rcases List.mem_append.1 hz with hz | hz
        · exact HZS.out.1 z hz
        · rw [List.mem_singleton] at hz
          subst hz
          show (strOfNums (rTxt b s 32).1).size ≤ _
          rw [strOfNums_size]
          have h1 := HTL.out
          have h2 := HB12.out
          omega⟩, HPn⟩
    · have d4 : ((hd1 b).1 == 0) = false := by simpa using hlv
      have d5 : decide ((hd1 b).1 = 0) = false := decide_eq_false hlv
      have HLV := Aside0.mk hlv
      clear hlv
      go_upto_region 8 with fail
      clear hc0
      obtain ⟨Al, cl, rfl⟩ := Kd.R_slice (HP.out.row 5 rfl)
      refine last_named (ds := [12]) (S := (fun w' => w'.cell? ⟨gp, 2, none⟩ = some (.slice Al ls.length cl))) (by kernel_rfl) (fun wd8 hwd8 => ?_)
      have HPn := Aside0.mk (HP.out.drewN 1)
      rw [← World.drew_is_drewN, hwd8] at HPn
      clear HP hwd8
      have HP := HPn
      clear HPn
      refine ⟨by (try dsimp only); first | exact blk_cell (HP.out.blk 1 rfl) 2 | exact blk_cell (HP.out.blk 0 rfl) 2, fun hHeld => ?_⟩
      refine wpAnyLast_take (i := 0) (oi := ({ dst := (some 32), op := (Op.fieldAddr 27 (Operand.tmp 5) 2), type := 0, pos := "ref.go:93", after := #[], guard := none } : Oper)) (v := ?_) rfl (by kernel_rfl) (by kernel_rfl) (by kernel_rfl) (by kernel_rfl) (by kernel_rfl) (fun _ _ _ h => h) (Or.inl ⟨by rfl, ?_⟩) hHeld ?_
      rotate_left
      · intro w_ hSw; (try dsimp only at hSw); go_simp; try (with_reducible rfl)
      try simp only [Act.put, List.setIfInBounds_toArray, List.set_cons_zero, List.set_cons_succ]
      refine wpAnyLast_take (i := 1) (oi := ({ dst := (some 33), op := (Op.load 25 (Operand.tmp 32)), type := 25, pos := "ref.go:93", after := #[{ on := 0, ground := Ground.data }], guard := none } : Oper)) (v := ?_) rfl (by kernel_rfl) (by kernel_rfl) (by kernel_rfl) (by kernel_rfl) (by kernel_rfl) (fun _ _ _ h => h) (Or.inl ⟨by rfl, ?_⟩) hHeld ?_
      rotate_left
      · intro w_ hSw; (try dsimp only at hSw); go_simp; try (with_reducible rfl)
      try simp only [Act.put, List.setIfInBounds_toArray, List.set_cons_zero, List.set_cons_succ]
      refine wpAnyLast_take (i := 2) (oi := ({ dst := (some 34), op := (Op.move (Operand.tmp 4)), type := 67, pos := "ref.go:93", after := #[], guard := none } : Oper)) (v := ?_) rfl (by kernel_rfl) (by kernel_rfl) (by kernel_rfl) (by kernel_rfl) (by kernel_rfl) (fun _ _ _ h => h) (Or.inl ⟨by rfl, ?_⟩) hHeld ?_
      rotate_left
      · intro w_ hSw; (try dsimp only at hSw); go_simp; try (with_reducible rfl)
      try simp only [Act.put, List.setIfInBounds_toArray, List.set_cons_zero, List.set_cons_succ]
      refine wpAnyLast_take (i := 4) (oi := ({ dst := (some 36), op := (Op.move (Operand.tmp 4)), type := 67, pos := "ref.go:93", after := #[], guard := none } : Oper)) (v := ?_) rfl (by kernel_rfl) (by kernel_rfl) (by kernel_rfl) (by kernel_rfl) (by kernel_rfl) (fun _ _ _ h => h) (Or.inl ⟨by rfl, ?_⟩) hHeld ?_
      rotate_left
      · intro w_ hSw; (try dsimp only at hSw); go_simp; try (with_reducible rfl)
      try simp only [Act.put, List.setIfInBounds_toArray, List.set_cons_zero, List.set_cons_succ]
      refine wpAnyLast_take (i := 6) (oi := ({ dst := (some 38), op := (Op.move (Operand.tmp 4)), type := 67, pos := "ref.go:93", after := #[], guard := none } : Oper)) (v := ?_) rfl (by kernel_rfl) (by kernel_rfl) (by kernel_rfl) (by kernel_rfl) (by kernel_rfl) (fun _ _ _ h => h) (Or.inl ⟨by rfl, ?_⟩) hHeld ?_
      rotate_left
      · intro w_ hSw; (try dsimp only at hSw); go_simp; try (with_reducible rfl)
      try simp only [Act.put, List.setIfInBounds_toArray, List.set_cons_zero, List.set_cons_succ]
      refine wpAnyLast_ready (rs := [3]) (by kernel_rfl) (by simp) ?_
      refine AllReadyL.cons (o := ({ dst := (some 35), op := (Op.call { callee := (Callee.value (Operand.func 40)), args := #[(Operand.tmp 34), (Operand.const (Value.int IntKind.i64 32))], argTypes := #[67, 3] }), type := 9, pos := "ref.go:93", after := #[{ on := 2, ground := Ground.data }], guard := none } : Oper)) rfl (by decide) (fun K hK => ?_) AllReadyL.nil
      go_simp
      go_at_call 40; refine (c_qtext HP.out 1 g A c b (s) rfl HST.out.1.1 HBB.out HBL.out HR.out HCA.out 32 (by decide) (by decide)).mono ?_; rintro e wv_ ⟨rfl, hpn⟩; clear HP; have HP := Aside0.mk (show Hp w0 wv_ (.blk gp (.cells #[.int .i64 (hd1 b).1, vp, .slice Al ls.length cl] 27 (0, 0)) :: rRef g (.slice A b.length c) ((rTxt b s 32).2) :: .blk r3 (.cells #[.int .i64 0, .int .i64 0] 30 (0, 0)) :: .blk r2 (.cells #[.int .i64 0, .slice none 0 0, .slice none 0 0] 27 (0, 0)) :: .row k55 55 w0.heap.size (vp) (ps) :: .row k66 66 w0.heap.size (.slice Al ls.length cl) (ls) :: Rs) from hpn); clear hpn
      go_wp2_with fail
      clear hHeld
      refine hK.out _ _ ?_ (fun hHeld => ?_)
      · (try dsimp only); first | exact blk_cell (HP.out.blk 1 rfl) 2 | exact blk_cell (HP.out.blk 0 rfl) 2
      clear hK K
      try simp only [Act.put, List.setIfInBounds_toArray, List.set_cons_zero, List.set_cons_succ]
      refine wpAnyLast_ready (rs := [5]) (by kernel_rfl) (by simp) ?_
      refine AllReadyL.cons (o := ({ dst := (some 37), op := (Op.call { callee := (Callee.value (Operand.func 41)), args := #[(Operand.tmp 36)], argTypes := #[67] }), type := 63, pos := "ref.go:93", after := #[{ on := 4, ground := Ground.data }, { on := 3, ground := Ground.chain }], guard := none } : Oper)) rfl (by decide) (fun K hK => ?_) AllReadyL.nil
      go_simp
      go_at_call 41; refine (c_qid HP.out 1 g A c b ((rTxt b s 32).2) rfl (rTxt_calm HST.out).1.1 HBB.out HBL.out HR.out HCA.out).mono ?_; rintro e wv2_ ⟨rfl, hpn⟩; clear HP; have HP := Aside0.mk (show Hp w0 wv2_ (.blk gp (.cells #[.int .i64 (hd1 b).1, vp, .slice Al ls.length cl] 27 (0, 0)) :: rRef g (.slice A b.length c) ((rId b (rTxt b s 32).2).2) :: .blk r3 (.cells #[.int .i64 0, .int .i64 0] 30 (0, 0)) :: .blk r2 (.cells #[.int .i64 0, .slice none 0 0, .slice none 0 0] 27 (0, 0)) :: .row k55 55 w0.heap.size (vp) (ps) :: .row k66 66 w0.heap.size (.slice Al ls.length cl) (ls) :: Rs) from hpn); clear hpn; rw [← by63_mk (rId b (rTxt b s 32).2).1 (rId_len b _)]
      go_wp2_with fail
      clear hHeld
      refine hK.out _ _ ?_ (fun hHeld => ?_)
      · (try dsimp only); first | exact blk_cell (HP.out.blk 1 rfl) 2 | exact blk_cell (HP.out.blk 0 rfl) 2
      clear hK K
      try simp only [Act.put, List.setIfInBounds_toArray, List.set_cons_zero, List.set_cons_succ]
      refine wpAnyLast_ready (rs := [7]) (by kernel_rfl) (by simp) ?_
      refine AllReadyL.cons (o := ({ dst := (some 39), op := (Op.call { callee := (Callee.value (Operand.func 38)), args := #[(Operand.tmp 38), (Operand.const (Value.int IntKind.i64 1)), (Operand.const (Value.int IntKind.i64 65536))], argTypes := #[67, 3, 3] }), type := 3, pos := "ref.go:93", after := #[{ on := 6, ground := Ground.data }, { on := 5, ground := Ground.chain }], guard := none } : Oper)) rfl (by decide) (fun K hK => ?_) AllReadyL.nil
      go_simp
      go_at_call 38; refine (c_qint HP.out 1 g A c b ((rId b (rTxt b s 32).2).2) rfl (rId_calm (rTxt_calm HST.out)).1.1 HBB.out HBL.out HR.out 1 65536).mono ?_; rintro e w_ ⟨rfl, hpn⟩; clear HP; have HP := Aside0.mk (show Hp w0 w_ (.blk gp (.cells #[.int .i64 (hd1 b).1, vp, .slice Al ls.length cl] 27 (0, 0)) :: rRef g (.slice A b.length c) ((rNum b (rId b (rTxt b s 32).2).2 1 65536 5).2) :: .blk r3 (.cells #[.int .i64 0, .int .i64 0] 30 (0, 0)) :: .blk r2 (.cells #[.int .i64 0, .slice none 0 0, .slice none 0 0] 27 (0, 0)) :: .row k55 55 w0.heap.size (vp) (ps) :: .row k66 66 w0.heap.size (.slice Al ls.length cl) (ls) :: Rs) from hpn); clear hpn
      go_wp2_with fail
      clear hHeld
      refine hK.out _ _ ?_ (fun hHeld => ?_)
      · (try dsimp only); first | exact blk_cell (HP.out.blk 1 rfl) 2 | exact blk_cell (HP.out.blk 0 rfl) 2
      clear hK K
      try simp only [Act.put, List.setIfInBounds_toArray, List.set_cons_zero, List.set_cons_succ]
      refine wpAnyLast_take (i := 8) (oi := ({ dst := (some 40), op := (Op.build 66 #[(0, (Operand.tmp 35)), (1, (Operand.tmp 37)), (2, (Operand.tmp 39))]), type := 66, pos := "ref.go:93", after := #[{ on := 3, ground := Ground.data }, { on := 5, ground := Ground.data }, { on := 7, ground := Ground.data }], guard := none } : Oper)) (v := .agg (c66 (⟨strOfNums (rTxt b s 32).1, mk63 (rId b (rTxt b s 32).2).1, (rNum b (rId b (rTxt b s 32).2).2 1 65536 5).1⟩ : S66)).toArray) rfl (by kernel_rfl) (by kernel_rfl) (by kernel_rfl) (by kernel_rfl) (by kernel_rfl) (fun _ _ _ h => h) (Or.inl ⟨by rfl, fun w_ hSw => run_op_build _ _ (by rfl) [(0, .string (strOfNums (rTxt b s 32).1)), (1, .agg (by8 (by63 (mk63 (rId b (rTxt b s 32).2).1))).toArray), (2, .int .i64 (rNum b (rId b (rTxt b s 32).2).2 1 65536 5).1)] (by rfl) (built_66 _ _ _)⟩) hHeld ?_
      try simp only [Act.put, List.setIfInBounds_toArray, List.set_cons_zero, List.set_cons_succ]
      refine wpAnyLast_ready (rs := [9]) (by kernel_rfl) (by simp) ?_
      refine AllReadyL.cons (o := ({ dst := (some 41), op := (Op.buildSlice 25 1 #[(0, (Operand.tmp 40))]), type := 25, pos := "ref.go:93", after := #[{ on := 8, ground := Ground.data }], guard := none } : Oper)) rfl (by decide) (fun K hK => ?_) AllReadyL.nil
      refine st_run (by rfl) (op_s66 (⟨strOfNums (rTxt b s 32).1, mk63 (rId b (rTxt b s 32).2).1, (rNum b (rId b (rTxt b s 32).2).2 1 65536 5).1⟩ : S66) (x := .tmp 40) (by exact ⟨rfl, rfl⟩)) ?_; obtain ⟨w1, hw1⟩ : ∃ z, w_.alloc (.cells (c66 (⟨strOfNums (rTxt b s 32).1, mk63 (rId b (rTxt b s 32).2).1, (rNum b (rId b (rTxt b s 32).2).2 1 65536 5).1⟩ : S66)).toArray 66) = z := ⟨_, rfl⟩; obtain ⟨g1, hg1⟩ : ∃ z, w_.heap.size = z := ⟨_, rfl⟩; have HPn := Aside0.mk (HP.out.alloc (.cells (c66 (⟨strOfNums (rTxt b s 32).1, mk63 (rId b (rTxt b s 32).2).1, (rNum b (rId b (rTxt b s 32).2).2 1 65536 5).1⟩ : S66)).toArray 66 (0, 0))); rw [hw1, hg1] at HPn; rw [hw1, hg1]; clear HP hw1 hg1; have HP := HPn; clear HPn
      clear hHeld
      refine hK.out _ _ ?_ (fun hHeld => ?_)
      · (try dsimp only); first | exact blk_cell (HP.out.blk 1 rfl) 2 | exact blk_cell (HP.out.blk 0 rfl) 2
      clear hK K
      try simp only [Act.put, List.setIfInBounds_toArray, List.set_cons_zero, List.set_cons_succ]
      refine wpAnyLast_ready (rs := [10]) (by kernel_rfl) (by simp) ?_
      refine AllReadyL.cons (o := ({ dst := (some 42), op := (Op.call { callee := (Callee.builtin Builtin.append), args := #[(Operand.tmp 33), (Operand.tmp 41)], argTypes := #[25, 25] }), type := 25, pos := "ref.go:93", after := #[{ on := 1, ground := Ground.data }, { on := 9, ground := Ground.data }, { on := 7, ground := Ground.chain }], guard := none } : Oper)) rfl (by decide) (fun K hK => ?_) AllReadyL.nil
      refine st_append plain_66 HP.out 6 (by rfl) _ _ 25 66 _ 56 (by rfl) Try.underlying25 info66 rfl (by decide) (by decide) (.slice Al ls.length cl) ls [(⟨strOfNums (rTxt b s 32).1, mk63 (rId b (rTxt b s 32).2).1, (rNum b (rId b (rTxt b s 32).2).2 1 65536 5).1⟩ : S66)] (some ⟨g1, 0, none⟩) 1 1 (by rfl) (by rfl) rfl (C_blk1 k66 (HP.out.blk 0 rfl) (k66_mk _ (⟨strOfNums (rTxt b s 32).1, mk63 (rId b (rTxt b s 32).2).1, (rNum b (rId b (rTxt b s 32).2).2 1 65536 5).1⟩ : S66))) (by have := HLN.out; omega) ?_; intro v2 w2 hpn; clear HP; have HP := Aside0.mk hpn; clear hpn; obtain ⟨A2, c2, rfl⟩ := Kd.R_slice (HP.out.row 6 rfl); simp only [List.length_append, List.length_cons, List.length_nil, Nat.zero_add] at HP; (try simp only [List.length_append, List.length_cons, List.length_nil, Nat.zero_add])
      clear hHeld
      refine hK.out _ _ ?_ (fun hHeld => ?_)
      · (try dsimp only); first | exact blk_cell (HP.out.blk 1 rfl) 2 | exact blk_cell (HP.out.blk 0 rfl) 2
      clear hK K
      try simp only [Act.put, List.setIfInBounds_toArray, List.set_cons_zero, List.set_cons_succ]
      refine wpAnyLast_take (i := 11) (oi := ({ dst := (some 43), op := (Op.fieldAddr 27 (Operand.tmp 5) 2), type := 0, pos := "ref.go:93", after := #[{ on := 0, ground := Ground.phase }, { on := 1, ground := Ground.phase }, { on := 2, ground := Ground.phase }, { on := 3, ground := Ground.phase }, { on := 4, ground := Ground.phase }, { on := 5, ground := Ground.phase }, { on := 6, ground := Ground.phase }, { on := 7, ground := Ground.phase }, { on := 8, ground := Ground.phase }, { on := 9, ground := Ground.phase }, { on := 10, ground := Ground.phase }], guard := none } : Oper)) (v := ?_) rfl (by kernel_rfl) (by kernel_rfl) (by kernel_rfl) (by kernel_rfl) (by kernel_rfl) (fun _ _ _ h => h) (Or.inl ⟨by rfl, ?_⟩) hHeld ?_
      rotate_left
      · intro w_ hSw; (try dsimp only at hSw); go_simp; try (with_reducible rfl)
      try simp only [Act.put, List.setIfInBounds_toArray, List.set_cons_zero, List.set_cons_succ]
      refine wpAnyLast_ready (rs := [12]) (by kernel_rfl) (by simp) ?_
      refine AllReadyL.cons_last (o := ({ dst := none, op := (Op.store 25 (Operand.tmp 43) (Operand.tmp 42)), type := 0, pos := "ref.go:93", after := #[{ on := 11, ground := Ground.data }, { on := 10, ground := Ground.data }, { on := 10, ground := Ground.chain }, { on := 0, ground := Ground.phase }, { on := 1, ground := Ground.phase }, { on := 2, ground := Ground.phase }, { on := 3, ground := Ground.phase }, { on := 4, ground := Ground.phase }, { on := 5, ground := Ground.phase }, { on := 6, ground := Ground.phase }, { on := 7, ground := Ground.phase }, { on := 8, ground := Ground.phase }, { on := 9, ground := Ground.phase }, { on := 10, ground := Ground.phase }], guard := none } : Oper)) rfl (by decide) (fun K hK => ?_) AllReadyL.nil
      have hc6 := blk_cell (HP.out.blk 1 rfl) 2; have hf6 := blk_frozen (HP.out.blk 1 rfl) 2; go_simp; have HPn := Aside0.mk (HP.out.setCell 1 rfl 2 (.slice A2 (ls.length + 1) c2)); clear HP hc6 hf6; have HP := HPn; clear HPn
      clear hHeld
      refine hK.out _ _ ?_
      clear hK K
      try simp only [Act.put, List.setIfInBounds_toArray, List.set_cons_zero, List.set_cons_succ]
      refine wpAnyLast_done (by kernel_rfl) ?_ _
      have HPn := Aside0.mk HP.out.drop1
      clear HP
      go_wp2_with fail
      go_roundg k
      case measure => have := HGK.out; omega
      case rel => exact ⟨n - 1, _, ps, ls ++ [(⟨strOfNums (rTxt b s 32).1, mk63 (rId b (rTxt b s 32).2).1, (rNum b (rId b (rTxt b s 32).2).2 1 65536 5).1⟩ : S66)], vp, .slice A2 (ls.length + 1) c2, rfl, ⟨by have h1 := HN.out; have h2 := HGK.out; omega⟩, ⟨by have h := HG.out; rw [HGK.out] at h; rw [← h, readQ, if_neg HLV.out]⟩, ⟨by have h1 := HLN.out; have h2 := HGK.out; simp only [List.length_append, List.length_cons, List.length_nil]; omega⟩, ⟨rNum_calm (rId_calm (rTxt_calm HST.out)) (by decide) HBB.out⟩, ⟨by
        refine ⟨HZS.out.1, fun z hz => ?_⟩
        rcases List.mem_append.1 hz with hz | hz
        · exact HZS.out.2 z hz
        · rw [List.mem_singleton] at hz
          subst hz
          show (strOfNums (rTxt b s 32).1).size ≤ _
          rw [strOfNums_size]
          have h1 := HTL.out
          have h2 := HB12.out
          omega⟩, HPn⟩
end Go.Proofs.Ytlgnfbgjdkbfoaa.Pg
namespace Go.Proofs.Ytlgnfbgjdkbfoaa.Pg
open Go.RowKit Go.Proofs.Ytlgnfbgjdkbfoaa.XH Go.Proofs.Ytlgnfbgjdkbfoaa.Wd Go.Proofs.YtlgnfbgjdkbfoaaW.PrintWords Go.Proofs.YtlgnfbgjdkbfoaaW.PrintLast Go.Proofs.YtlgnfbgjdkbfoaaW.PrintMore Go.Proofs.YtlgnfbgjdkbfoaaXe Go.Proofs.YtlgnfbgjdkbfoaaXs
set_option linter.unusedVariables false
set_option linter.unusedSimpArgs false
attribute [local go_sem ↓] Go.wp_at_zero Go.wp_at_succ
section
variable {α : Type} {d : Kd α} {P : Program} {ops : Array Oper} {rest : List Oper} {o : Oper} {a : Act} {Q : Exit → Act → World → Prop} {W w0 : World} {Rs : List Res}
/-- an element of a row of the call's own is written -/
theorem ev_put (HP : Hp w0 W Rs) (i : Nat) {e g n cap : Nat} {xs : List α} (hi : Rs[i]? = some (.row d e w0.heap.size (.slice (some ⟨g, 0, none⟩) n cap) xs)) (hgd : o.guard = none) (hdst : o.dst = none) (ty : TypeId) (px py : Operand) (ho : o.op = .store ty px py) (x : Int) (h0 : 0 ≤ x) (h1 : x < n) (y : α) (cs : List Value)
    (hx : a.eval px = .pointer (some ⟨g, x.toNat * d.sz, none⟩)) (hy : a.eval py = .agg cs.toArray) (hcs : cs.length = d.sz) (hM : ∀ ok, d.M W w0.heap.size ok y cs) (hsz : (P.info? ty).map (·.size) = some cs.length) (hone : ∀ v ∈ cs, v.oneCell' = true)
    (h : ∀ w1, Hp w0 w1 (Rs.set i (.row d e w0.heap.size (.slice (some ⟨g, 0, none⟩) n cap) (xs.set x.toNat y))) → wpList P ops Q rest a w1) : wpList P ops Q (o :: rest) a W := by
  obtain ⟨F, hR, _, _, hup⟩ := HP.setR i hi
  obtain ⟨c, k1, _, k3, k4⟩ := Kd.R_elem hR y x h0 h1
  have hFg : F g := hR.1 g (by simp [Value.ownBlock])
  refine wpList_store_mid hgd ty px py ho g (x.toNat * d.sz) cs.toArray hx hy (fun j hj => ?_) (by simpa using hsz) (all_oneCell_toArray hone) ?_
  · simp only [List.size_toArray] at hj
    refine ⟨?_, k4 j⟩
    have := k3 j _ (List.getElem?_eq_getElem (by omega))
    rw [this]; rfl
  · rw [hdst]
    have h2 := Kd.R_seg (okp := fun _ => False) hR x h0 h1 (c := c) (seg := cs) (j := 0) k1 (fun j u hu => by simpa using k3 j u hu) (by omega) (x' := y) (by
      have e1 : c.take 0 ++ cs ++ c.drop (0 + cs.length) = cs := by rw [List.drop_of_length_le (by omega)]; simp
      rw [e1]
      exact hM _) (fun k hk => hk.elim)
    rw [Nat.add_zero] at h2
    refine h _ (hup _ _ _ h2.1 (fun k hk => .inl hk) (HP.below.grown h2.2 HP.size fun k hk => by injection hk with hk; rw [← hk]; have := Kd.R_base2 hR; rcases this with h | ⟨q, h, hq⟩ <;> simp [Value.ownBlock] at h; omega) ⟨by have := h2.2.size; exact this, fun k hk hf => h2.2.block k hk fun e => hf (by injection e with e; rw [e]; exact hFg)⟩)
end
def q55 : S55 := ⟨⟨#[63]⟩, ⟨#[63]⟩⟩
def q66 : S66 := ⟨⟨#[63]⟩, z63, 0⟩
theorem built_q : Try.prog.built 66 [(0, .string ⟨#[63]⟩)] = some (c66 q66).toArray := by kernel_rfl
set_option maxHeartbeats 8000000 in
set_option maxRecDepth 100000 in
theorem c_overpairs {w0 w : World} {Rs : List Res} (HP : Hp w0 w Rs) (i : Nat) (A : Option Addr) (c : Nat) (l : List S55) (hi : Rs[i]? = some (.row k55 55 w0.heap.size (.slice A l.length c) l)) (hl : l.length ≤ 1000000) :
    Calls Try.prog 45 #[.slice A l.length c] w fun e w' => e = .returned (.tuple #[]) ∧ ∃ l', Hp w0 w' (Rs.set i (.row k55 55 w0.heap.size (.slice A l.length c) l')) := by
  have HPn := Aside0.mk (show Hp w0 w (Rs.set i (.row k55 55 w0.heap.size (.slice A l.length c) l)) from by rw [set_self hi]; exact HP)
  have HLT := Aside0.mk (List.getElem?_eq_some_iff.1 hi).1
  have HL := Aside0.mk hl
  clear HP hi hl
  have HP := HPn
  clear HPn
  go_enter Try.func45, Try.ntmps45
  go_wp2_with fail
  go_loopg [2] l.length (fun kq vq w' => ∃ (j : Nat) (x : Int) (l' : List S55), vq = .int .i64 x ∧ Aside0 (x = (j : Int)) ∧ Aside0 (kq + j = l.length) ∧ Aside0 (l'.length = l.length) ∧ Aside0 (Hp w0 w' (Rs.set i (.row k55 55 w0.heap.size (.slice A l.length c) l'))))
  case atStart => exact ⟨0, 0, l, rfl, ⟨rfl⟩, ⟨rfl⟩, ⟨rfl⟩, HP⟩
  clear HP
  obtain ⟨j, x, l', rfl, HX, HK, HLE, HP⟩ := hrel
  have hx := HX.out
  by_cases c1 : j < l.length
  · have d1 : decide (x < (l.length : Int)) = true := decide_eq_true (by omega)
    have ex : IntKind.i64.wrap (x + 1) = x + 1 := IntWalk.i64_in _ (by have := HL.out; omega)
    have p0 : 0 ≤ x := by omega
    have q0 : x < (l.length : Int) := by omega
    obtain ⟨g, cap, hA, _⟩ := Kd.R_form (HP.out.row i (set_get _ HLT.out)) (by have := HLE.out; omega)
    injection hA with hA1 hA2 hA3
    subst hA1
    have HCJ := Aside0.mk c1
    clear hx c1 hA2 hA3
    go_wp2_with (first | ((with_reducible refine gate_store (t := 55) (p := 12) rfl ?_); refine ev_put (d := k55) HP.out i (set_get _ HLT.out) rfl rfl 55 (.tmp 12) (.tmp 11) rfl x p0 q0 q55 (c55 q55) rfl rfl rfl (fun ok => k55_mkM _ _ _ _) (by kernel_rfl) (by simp [c55, Value.oneCell']) ?_; intro wz hpn; clear HP; have HP := Aside0.mk hpn; clear hpn; rw [List.set_set] at HP))
    go_roundg (gk - 1)
    case measure => have := HK.out; have := HCJ.out; omega
    case rel => exact ⟨j + 1, x + 1, _, rfl, ⟨by have := HX.out; omega⟩, ⟨by have := HK.out; have := HCJ.out; omega⟩, ⟨by rw [List.length_set]; exact HLE.out⟩, HP⟩
  · have d1 : decide (x < (l.length : Int)) = false := decide_eq_false (by omega)
    clear hx c1
    go_wp2_with fail
    refine bodyPost_end (v := .tuple #[]) (by simp [results, Try.results45, go_sem]) rfl ?_
    exact ⟨rfl, l', HP.out⟩
set_option maxHeartbeats 8000000 in
set_option maxRecDepth 100000 in
theorem c_overpage {w0 w : World} {Rs : List Res} (lv : Int) (A1 : Option Addr) (c1 : Nat) (l1 : List S55) (A2 : Option Addr) (c2 : Nat) (l2 : List S66) (HP : Hp w0 w (.row k55 55 w0.heap.size (.slice A1 l1.length c1) l1 :: .row k66 66 w0.heap.size (.slice A2 l2.length c2) l2 :: Rs)) (hl1 : l1.length ≤ 1000000) (hl2 : l2.length ≤ 1000000) :
    Calls Try.prog 14 #[.agg #[.int .i64 lv, .slice A1 l1.length c1, .slice A2 l2.length c2]] w fun e w' => e = .returned (.tuple #[]) ∧ Hp w0 w' Rs := by
  have HPn := Aside0.mk HP
  have HL := Aside0.mk (And.intro hl1 hl2)
  clear HP hl1 hl2
  have HP := HPn
  clear HPn
  go_enter Try.func14, Try.ntmps14
  go_wp2_with (first | ((with_reducible refine gate_dst (N := 1) rfl ?_); refine ev_box rfl 27 (.tmp 0) rfl (#[.int .i64 lv, .slice A1 l1.length c1, .slice A2 l2.length c2]) rfl ?_; intro g1 wa hge hg hb; have HPn := Aside0.mk (HP.out.newB hb hg hge); clear HP; have HP := HPn; clear HPn; clear hge hg hb; have hc1 : wa.cell? ⟨g1, 1, none⟩ = some (.slice A1 l1.length c1) := blk_cell (HP.out.blk 0 rfl) 1))
  refine (c_overpairs HP.out 1 A1 c1 l1 rfl HL.out.1).mono ?_; rintro e wb ⟨rfl, l1', hpn⟩
  clear HP hc1
  have HP := Aside0.mk hpn
  clear hpn
  go_wp2_with fail
  go_loopg [2] l2.length (fun kq vq w' => ∃ (j : Nat) (x : Int) (l' : List S66), vq = .int .i64 x ∧ Aside0 (x = (j : Int)) ∧ Aside0 (kq + j = l2.length) ∧ Aside0 (l'.length = l2.length) ∧ Aside0 (Hp w0 w' (.blk g1 (.cells #[.int .i64 lv, .slice A1 l1.length c1, .slice A2 l2.length c2] 27 (0, 0)) :: .row k55 55 w0.heap.size (.slice A1 l1.length c1) l1' :: .row k66 66 w0.heap.size (.slice A2 l2.length c2) l' :: Rs)))
  case atStart => exact ⟨0, 0, l2, rfl, ⟨rfl⟩, ⟨rfl⟩, ⟨rfl⟩, HP⟩
  clear HP
  obtain ⟨j, x, l', rfl, HX, HK, HLE, HP⟩ := hrel
  have hx := HX.out
  have hc2 : wr.cell? ⟨g1, 2, none⟩ = some (.slice A2 l2.length c2) := blk_cell (HP.out.blk 0 rfl) 2
  by_cases c1_ : j < l2.length
  · have d1 : decide (x < (l2.length : Int)) = true := decide_eq_true (by omega)
    have ex : IntKind.i64.wrap (x + 1) = x + 1 := IntWalk.i64_in _ (by have := HL.out; omega)
    have p0 : 0 ≤ x := by omega
    have q0 : x < (l2.length : Int) := by omega
    obtain ⟨g, cap, hA, _⟩ := Kd.R_form (HP.out.row 2 rfl) (by have := HLE.out; omega)
    injection hA with hA1 hA2 hA3
    subst hA1
    have HCJ := Aside0.mk c1_
    clear hx c1_ hA2 hA3
    go_wp2_with (first | ((with_reducible refine gate_dst (N := 16) rfl ?_); refine ev_run (by rfl) (run_op_build _ _ (by rfl) [(0, .string ⟨#[63]⟩)] (by rfl) built_q) ?_) | ((with_reducible refine gate_store (t := 66) (p := 17) rfl ?_); refine ev_put (d := k66) HP.out 2 rfl rfl rfl 66 (.tmp 17) (.tmp 16) rfl x p0 q0 q66 (c66 q66) rfl rfl rfl (fun ok => k66_mkM _ _ _ _) (by kernel_rfl) (by simp [c66, Value.oneCell']) ?_; intro wz hpn; clear HP; have HP := Aside0.mk hpn; clear hpn))
    go_roundg (gk - 1)
    case measure => have := HK.out; have := HCJ.out; omega
    case rel => exact ⟨j + 1, x + 1, _, rfl, ⟨by have := HX.out; omega⟩, ⟨by have := HK.out; have := HCJ.out; omega⟩, ⟨by rw [List.length_set]; exact HLE.out⟩, HP⟩
  · have d1 : decide (x < (l2.length : Int)) = false := decide_eq_false (by omega)
    clear hx c1_
    go_wp2_with fail
    refine bodyPost_end (v := .tuple #[]) (by simp [results, Try.results14, go_sem]) rfl ?_
    exact ⟨rfl, Hp.dropN [_, _, _] HP.out⟩
end Go.Proofs.Ytlgnfbgjdkbfoaa.Pg
namespace Go.Proofs.Ytlgnfbgjdkbfoaa.Pg
open Go.RowKit Go.Proofs.Ytlgnfbgjdkbfoaa.XH Go.Proofs.Ytlgnfbgjdkbfoaa.Wd Go.Proofs.YtlgnfbgjdkbfoaaW.PrintWords Go.Proofs.YtlgnfbgjdkbfoaaW.PrintLast Go.Proofs.YtlgnfbgjdkbfoaaW.PrintMore Go.Proofs.YtlgnfbgjdkbfoaaXe Go.Proofs.YtlgnfbgjdkbfoaaXs
set_option linter.unusedVariables false
set_option linter.unusedSimpArgs false
attribute [local go_sem ↓] Go.wp_at_zero Go.wp_at_succ
theorem read_len {b : List Int} (hB : ∀ x ∈ b, 0 ≤ x ∧ x < 256) : (readP b).1.2.1.length ≤ 16 ∧ (readP b).1.2.2.length ≤ 16 := by
  by_cases h : (readP b).2.1 = 0
  · have h1 := read_ok hB h
    have h2 := (page_ok h1.1).2.2.1
    omega
  · have h1 := (read_place hB).2.2 h
    rw [h1]
    simp
set_option maxHeartbeats 8000000 in
set_option maxRecDepth 100000 in
theorem pageReads_law (A : Option Addr) (c : Nat) (b : List Int) (W : World) (hr : (Kd.int .u8).C W A b.length b) (hc : b.length ≤ c) (hB : ∀ x ∈ b, 0 ≤ x ∧ x < 256) :
    Calls Try.prog 3 #[.slice A b.length c] W fun e W' => e = .returned (.bool true) ∧ Below W.heap.size W W' := by
  have HR := Aside0.mk hr
  have HC := Aside0.mk hc
  have HB := Aside0.mk hB
  have HP := Aside0.mk (Hp.start W)
  clear hr hc hB
  by_cases hb2 : b.length > 2000
  · have k1 : decide ((2000 : Int) < (b.length : Int)) = true := decide_eq_true (by omega)
    have k2 : decide (2000 < b.length) = true := decide_eq_true hb2
    clear hb2
    go_enter Try.func3, Try.ntmps3
    go_wp2_with fail
    go_ret
    exact ⟨rfl, HP.out.below⟩
  have k1 : decide ((2000 : Int) < (b.length : Int)) = false := decide_eq_false (by omega)
  have k2 : decide (2000 < b.length) = false := decide_eq_false hb2
  have HL := Aside0.mk (show b.length ≤ 2000 by omega)
  clear hb2
  have HLB := Aside0.mk (fun (g : Nat) (w' : World) (hg : w'.heap[g]? = some (.cells (H.u8s (b ++ H.lentT b.length)).toArray 5 (0, 0))) => (show Kd.C (Kd.int .u8) w' (some ⟨g, 0, none⟩) b.length b from by
    have h := H.C_blkW (k := .u8) (l := b ++ H.lentT b.length) hg (by rw [H.lent_len]; have := HL.out; omega)
    have h2 := Kd.C_take (m := b.length) h (by rw [H.lent_len]; omega)
    rw [List.take_left] at h2
    exact h2))
  have HST := Aside0.mk (items_st HB.out)
  go_enter Try.func3, Try.ntmps3
  go_wp2_with fail
  refine (H.c_lent A c b _ HR.out HC.out (by have := HL.out; omega)).mono ?_; rintro e wa ⟨gi, rfl, hge, hg, hb⟩
  have HPn := Aside0.mk (HP.out.newB hb hg hge)
  clear HP hge hg hb
  have HP := HPn
  clear HPn
  go_wp2_with fail
  refine (c_read HP.out (some ⟨gi, 0, none⟩) (b.length + 3) b (by have := HL.out; omega) HB.out (fun w' h => HLB.out gi w' (h.blk 0 rfl))).mono ?_; rintro e wb ⟨vp, vl, rfl, hpn⟩
  clear HP
  have HP := Aside0.mk hpn
  clear hpn
  obtain ⟨Ap, cp, rfl⟩ := Kd.R_slice (HP.out.row 0 rfl)
  obtain ⟨Aq, cq, rfl⟩ := Kd.R_slice (HP.out.row 1 rfl)
  have HRR := Aside0.mk (fun (w0 w : World) (Rs : List Res) (HP : Hp w0 w Rs) (hR : ∀ w' : World, Below w0.heap.size w0 w' → Kd.C (Kd.int .u8) w' A b.length b) => c_rread HP A c b (by have := HL.out; omega) HB.out HC.out hR)
  have HLEN := Aside0.mk (read_len HB.out)
  obtain ⟨⟨⟨v', ps⟩, ⟨fx, fy⟩⟩, hrp⟩ : ∃ z, ((((readP b).1.1, (readP b).1.2), ((readP b).2.1, (readP b).2.2)) : (Int × (List S55 × List S66)) × (Int × Int)) = z := ⟨_, rfl⟩
  obtain ⟨ps, ls⟩ := ps
  have r1 : (readP b).1.1 = v' := congrArg (fun z => z.1.1) hrp
  have r2 : (readP b).1.2.1 = ps := congrArg (fun z => z.1.2.1) hrp
  have r3 : (readP b).1.2.2 = ls := congrArg (fun z => z.1.2.2) hrp
  have r4 : (readP b).2.1 = fx := congrArg (fun z => z.2.1) hrp
  have r5 : (readP b).2.2 = fy := congrArg (fun z => z.2.2) hrp
  rw [r1, r2, r3, r4, r5] at HRR
  rw [r2, r3] at HP HLEN
  rw [r1, r2, r3, r4, r5]
  clear hrp r1 r2 r3 r4 r5 HST
  obtain ⟨ks, hks⟩ := same_page v' ps ls (by have := HLEN.out.1; omega) (by have := HLEN.out.2; omega)
  have HKS := Aside0.mk hks
  clear hks
  have heq : ∀ d w, (Op.equalIn (d + 2) 30 (.agg #[.int .i64 fx, .int .i64 fy]) (.agg #[.int .i64 fx, .int .i64 fy])).run Try.prog w = .ok true w := fun d w => by rw [eq_fault]; simp
  go_wp2_with (first | ((with_reducible refine gate_dst (N := 4) rfl ?_); refine ev_alloc rfl 27 rfl (.agg #[.int .i64 0, .slice none 0 0, .slice none 0 0]) (by kernel_rfl) ?_; intro gp wqa1 hge hg hb; have HPn := Aside0.mk (HP.out.newB hb hg hge); clear HP; have HP := HPn; clear HPn; clear hge hg hb) | ((with_reducible refine gate_dst (N := 5) rfl ?_); refine ev_alloc rfl 30 rfl (.agg #[.int .i64 0, .int .i64 0]) (by kernel_rfl) ?_; intro gf wqa2 hge hg hb; have HPn := Aside0.mk (HP.out.newB hb hg hge); clear HP; have HP := HPn; clear HPn; clear hge hg hb) | ((with_reducible refine gate_store (t := 27) (p := 4) rfl ?_); refine ev_store rfl 27 (.tmp 4) (.tmp 17) rfl rfl _ rfl (cells := #[.int .i64 (v'), .slice Ap ps.length cp, .slice Aq ls.length cq]) rfl (HP.out.blk 1 rfl) (by kernel_rfl) rfl (by simp [Value.oneCell']) ?_; intro wqa3 hg hgr; have HPn := Aside0.mk (HP.out.setB 1 rfl hgr hg); clear HP; have HP := HPn; clear HPn; clear hg hgr) | ((with_reducible refine gate_store (t := 30) (p := 5) rfl ?_); refine ev_store rfl 30 (.tmp 5) (.tmp 18) rfl rfl _ rfl (cells := #[.int .i64 (fx), .int .i64 (fy)]) rfl (HP.out.blk 0 rfl) (by kernel_rfl) rfl (by simp [Value.oneCell']) ?_; intro wqa4 hg hgr; have HPn := Aside0.mk (HP.out.setB 0 rfl hgr hg); clear HP; have HP := HPn; clear HPn; clear hg hgr))
  refine (HRR.out _ _ _ HP.out (fun w' h => Kd.C_below HR.out h)).mono ?_; rintro e wc ⟨vp2, vl2, rfl, hpn⟩
  clear HP HRR
  have HP := Aside0.mk hpn
  clear hpn
  obtain ⟨Ar, cr, rfl⟩ := Kd.R_slice (HP.out.row 0 rfl)
  obtain ⟨As, cs, rfl⟩ := Kd.R_slice (HP.out.row 1 rfl)
  go_wp2_with (first | ((with_reducible refine gate_dst (N := 6) rfl ?_); refine ev_alloc rfl 27 rfl (.agg #[.int .i64 0, .slice none 0 0, .slice none 0 0]) (by kernel_rfl) ?_; intro gp2 wqb1 hge hg hb; have HPn := Aside0.mk (HP.out.newB hb hg hge); clear HP; have HP := HPn; clear HPn; clear hge hg hb) | ((with_reducible refine gate_dst (N := 7) rfl ?_); refine ev_alloc rfl 30 rfl (.agg #[.int .i64 0, .int .i64 0]) (by kernel_rfl) ?_; intro gf2 wqb2 hge hg hb; have HPn := Aside0.mk (HP.out.newB hb hg hge); clear HP; have HP := HPn; clear HPn; clear hge hg hb) | ((with_reducible refine gate_store (t := 27) (p := 6) rfl ?_); refine ev_store rfl 27 (.tmp 6) (.tmp 22) rfl rfl _ rfl (cells := #[.int .i64 (v'), .slice Ar ps.length cr, .slice As ls.length cs]) rfl (HP.out.blk 1 rfl) (by kernel_rfl) rfl (by simp [Value.oneCell']) ?_; intro wqb3 hg hgr; have HPn := Aside0.mk (HP.out.setB 1 rfl hgr hg); clear HP; have HP := HPn; clear HPn; clear hg hgr) | ((with_reducible refine gate_store (t := 30) (p := 7) rfl ?_); refine ev_store rfl 30 (.tmp 7) (.tmp 23) rfl rfl _ rfl (cells := #[.int .i64 (fx), .int .i64 (fy)]) rfl (HP.out.blk 0 rfl) (by kernel_rfl) rfl (by simp [Value.oneCell']) ?_; intro wqb4 hg hgr; have HPn := Aside0.mk (HP.out.setB 0 rfl hgr hg); clear HP; have HP := HPn; clear HPn; clear hg hgr) | ((with_reducible refine gate_dst (N := 24) rfl ?_); refine ev_load rfl 27 (.tmp 4) rfl gp rfl (HP.out.blk 5 rfl) Try.underlying27 rfl (by kernel_rfl) ?_) | ((with_reducible refine gate_dst (N := 25) rfl ?_); refine ev_load rfl 27 (.tmp 6) rfl gp2 rfl (HP.out.blk 1 rfl) Try.underlying27 rfl (by kernel_rfl) ?_))
  refine (retconkit_SamePage.calls ks v' Ap cp ps Aq cq ls v' Ar cr ps As cs ls true _ (Kd.R_reads' (HP.out.row 6 rfl)).2.2 (Kd.R_reads' (HP.out.row 6 rfl)).2.1 (Kd.R_reads' (HP.out.row 7 rfl)).2.2 (Kd.R_reads' (HP.out.row 7 rfl)).2.1 (Kd.R_reads' (HP.out.row 2 rfl)).2.2 (Kd.R_reads' (HP.out.row 2 rfl)).2.1 (Kd.R_reads' (HP.out.row 3 rfl)).2.2 (Kd.R_reads' (HP.out.row 3 rfl)).2.1 HKS.out).mono ?_; rintro e wd ⟨rfl, hb⟩
  have HPn := Aside0.mk (HP.out.call hb)
  clear HP hb
  have HP := HPn
  clear HPn
  go_wp2_with (first | ((with_reducible refine gate_dst (N := 28) rfl ?_); refine ev_load rfl 30 (.tmp 5) rfl gf rfl (HP.out.blk 4 rfl) Try.underlying30 rfl (by kernel_rfl) ?_) | ((with_reducible refine gate_dst (N := 29) rfl ?_); refine ev_load rfl 30 (.tmp 7) rfl gf2 rfl (HP.out.blk 0 rfl) Try.underlying30 rfl (by kernel_rfl) ?_))
  refine (H.c_kept gi A c b _ (HP.out.blk 8 rfl) (Kd.C_below HR.out HP.out.below) HC.out (by have := HL.out; omega)).mono ?_; rintro e we ⟨rfl, hb⟩
  have HPn := Aside0.mk (HP.out.call hb)
  clear HP hb
  have HP := HPn
  clear HPn
  go_wp2_with (first | ((with_reducible refine gate_dst (N := 37) rfl ?_); refine ev_load rfl 27 (.tmp 4) rfl gp rfl (HP.out.blk 5 rfl) Try.underlying27 rfl (by kernel_rfl) ?_))
  have HPn := Aside0.mk (Hp.dropN [_, _, _, _, _, _] HP.out)
  clear HP
  have HP := HPn
  clear HPn
  refine (c_overpage v' Ap cp ps Aq cq ls HP.out (by have := HLEN.out.1; omega) (by have := HLEN.out.2; omega)).mono ?_; rintro e wf ⟨rfl, hpn⟩
  clear HP
  have HP := Aside0.mk hpn
  clear hpn
  go_wp2_with fail
  refine (c_awake _).mono ?_; rintro e wg ⟨rfl, hb⟩
  have HPn := Aside0.mk (HP.out.call hb)
  clear HP hb
  have HP := HPn
  clear HPn
  go_wp2_with fail
  go_ret
  exact ⟨rfl, HP.out.below⟩
end Go.Proofs.Ytlgnfbgjdkbfoaa.Pg
