import Derived.Test.YtncmbkjjoamfjaaO7t
namespace Go.Proofs.Ytncmbkjjoamfjaa.H
open Go.RowKit Go.Proofs.Ytncmbkjjoamfjaa.XH Go.Proofs.YtncmbkjjoamfjaaW.PrintWords Go.Proofs.YtncmbkjjoamfjaaW.PrintLast Go.Proofs.YtncmbkjjoamfjaaW.PrintMore Go.Proofs.YtncmbkjjoamfjaaXe Go.Proofs.YtncmbkjjoamfjaaXs
set_option linter.unusedVariables false
set_option linter.unusedSimpArgs false
attribute [local go_sem ↓] Go.wp_at_zero Go.wp_at_succ
attribute [local go_sem] valUpon
theorem wf8 {x : Int} (h : (Lit.int .u8 x).wf = true) : 0 ≤ x ∧ x < 256 := by
  simp [Lit.wf, IntKind.min, IntKind.max, IntKind.signed, IntKind.bits] at h
  omega
theorem wrapB (v x a : Int) (hx : 0 ≤ x ∧ x < 256) (ha : 0 ≤ a ∧ a < 256) (h0 : ¬ a = 0) (h : v = IntKind.u8.wrap (x + a)) : v ≠ x ∧ 0 ≤ v ∧ v < 256 := by
  have e : IntKind.u8.wrap (x + a) = (x + a) % 256 := by simp [IntKind.wrap, IntKind.signed, IntKind.bits]
  rw [e] at h
  omega
theorem bytes_set {l : List Int} (h : Bytes l) (j : Nat) {v : Int} (hv : 0 ≤ v ∧ v < 256) : Bytes (l.set j v) := fun x hx => by
  rcases List.mem_or_eq_of_mem_set hx with h1 | rfl
  · exact h x h1
  · exact hv
theorem c_failsN (A : Option Addr) (c : Nat) (b : List Int) (want : Int) (w : World) (n : Nat) (hn : n = b.length) (hr : Kd.C (Kd.int .u8) w A b.length b) (hc : b.length ≤ c) (hm : b.length ≤ 1000000) (hB : Bytes b) (h : unpE b = want) (h0 : want ≠ 0) :
    Calls Try.prog 21 #[.slice A n c, .int .i64 want] w fun e w' => e = .returned (.bool true) ∧ Below w.heap.size w w' := by
  subst hn
  exact c_fails A c b want w hr hc hm hB h h0
set_option maxHeartbeats 8000000 in
set_option maxRecDepth 100000 in
theorem objectTurned_law (a0 : Int) (ha0 : -9223372036854775808 ≤ a0 ∧ a0 ≤ 9223372036854775807) (A : Option Addr) (c : Nat) (b : List Int) (w : World) (hr : Kd.C (Kd.int .u8) w A b.length b) (hc : b.length ≤ c) (hB : Bytes b) (a2 : Int) (ha2 : -9223372036854775808 ≤ a2 ∧ a2 ≤ 9223372036854775807) (a3 : Int) (ha3 : 0 ≤ a3 ∧ a3 < 256) :
    Calls Try.prog 7 #[.int .i64 a0, .slice A b.length c, .int .i64 a2, .int .u8 a3] w fun e w' => e = .returned (.bool true) ∧ Below w.heap.size w w' := by
  have HR := Aside0.mk hr
  have HC := Aside0.mk hc
  have HB := Aside0.mk hB
  have HA0 := Aside0.mk ha0
  have HA2 := Aside0.mk ha2
  have HA3 := Aside0.mk ha3
  have HP := Aside0.mk (Hp.start w)
  clear hr hc hB ha0 ha2 ha3
  go_enter Try.func7, Try.ntmps7
  go_wp2_with fail
  refine (c_awake _).mono ?_; rintro e w1 ⟨rfl, hb⟩; have HPn := Aside0.mk (HP.out.call hb); clear HP; have HP := HPn; clear HPn; clear hb
  by_cases c1 : (1000 : Int) < (b.length : Int)
  · have c1b : decide ((1000 : Int) < (b.length : Int)) = true := decide_eq_true c1
    go_wp2_with fail
    go_ret
    exact ⟨rfl, HP.out.below⟩
  have c1b : decide ((1000 : Int) < (b.length : Int)) = false := decide_eq_false c1
  have HN := Aside0.mk (show b.length ≤ 1000 by omega)
  clear c1
  by_cases c2 : a3 = 0
  · have c2b : (a3 == 0) = true := beq_iff_eq.2 c2
    go_wp2_with fail
    go_ret
    exact ⟨rfl, HP.out.below⟩
  have c2b : (a3 == 0) = false := beq_eq_false_iff_ne.2 c2
  have H30 := Aside0.mk c2
  clear c2
  obtain ⟨k, hk, hk0, hk9⟩ := pick_f a0 9 HA0.out (by decide) (by decide)
  have HK := Aside0.mk hk
  have HK9 := Aside0.mk (show 1 ≤ 1 + k ∧ 1 + k ≤ 9 by omega)
  have hkw : IntKind.i64.wrap (1 + k) = 1 + k := i64k rfl (by omega)
  clear hk hk0 hk9
  go_wp2_with fail
  refine (retconkit_Pick.calls a0 9 k _ HK.out).mono ?_; rintro e w_ ⟨rfl, nk, rfl⟩; have HPn := Aside0.mk (HP.out.drewN nk); clear HP; have HP := HPn; clear HPn; (try simp only [World.drewN_drewN] at HP)
  go_wp2_with fail
  obtain ⟨kd, hkd⟩ : ∃ z, 1 + k = z := ⟨_, rfl⟩
  rw [hkd] at HK9
  (try rw [hkw])
  (try rw [hkd])
  clear hkw
  have CPK := Aside0.mk (c_pack kd A c b _ (Kd.C_below HR.out HP.out.below) HC.out (by have := HN.out; omega) HB.out)
  have hck : chkO kd b.length = 0 := by
    have h1 := HK9.out
    have h2 := HN.out
    unfold chkO
    rw [if_neg (by omega), if_neg (by omega)]
  have hpk : packR kd b = packO kd b := by unfold packR; rw [if_pos hck]
  have HX := Aside0.mk (packO_len kd b (by have := HN.out; omega))
  have HXB := Aside0.mk (packO_bytes kd b HB.out)
  have HXT := Aside0.mk (fun j v => turned kd b HK9.out (by have := HN.out; omega) j v)
  rw [hck, hpk] at CPK
  obtain ⟨X, hX⟩ : ∃ z, packO kd b = z := ⟨_, rfl⟩
  rw [hX] at HX HXB HXT CPK
  clear hX hck hpk
  refine CPK.out.mono ?_; rintro e w2 ⟨v2, rfl, ho, hb⟩
  clear CPK
  have HPn := Aside0.mk (HP.out.newR hb ho)
  clear HP ho hb
  have HP := HPn
  clear HPn
  obtain ⟨g2, c2, rfl, -⟩ := Kd.R_form (HP.out.row 0 rfl) (by have := HX.out; omega)
  have q64 : ((X.length : Int) < 64) = False := eq_false (by have := HX.out; omega)
  have q64b : decide ((X.length : Int) < 64) = false := decide_eq_false (by have := HX.out; omega)
  go_wp2_with fail
  have CCP := Aside0.mk (retconkit_CopyBytes.calls (some ⟨g2, 0, none⟩) c2 X X _ (Kd.R_reads' (HP.out.row 0 rfl)).2.2 (Kd.R_reads' (HP.out.row 0 rfl)).2.1 (by have h1 := HX.out; have h2 := HN.out; unfold retconkit_CopyBytes.f; simp only [Option.bind_some, List.nil_append, List.length_nil]; rw [if_pos (by omega)]))
  refine CCP.out.mono ?_; rintro e w3 ⟨v3, rfl, ho, hb⟩
  clear CCP
  have HPn := Aside0.mk (HP.out.newR hb ho)
  clear HP ho hb
  have HP := HPn
  clear HPn
  obtain ⟨g3, c3, rfl, -⟩ := Kd.R_form (HP.out.row 0 rfl) (by have := HX.out; omega)
  go_wp2_with fail
  obtain ⟨p, hp, hp0, hp1⟩ := pick_f a2 32 HA2.out (by decide) (by decide)
  have HPK := Aside0.mk hp
  have HP3 := Aside0.mk (show 0 ≤ p ∧ p < 32 from ⟨hp0, hp1⟩)
  clear hp hp0 hp1
  refine (retconkit_Pick.calls a2 32 p _ HPK.out).mono ?_; rintro e w_ ⟨rfl, np, rfl⟩; have HPn := Aside0.mk (HP.out.drewN np); clear HP; have HP := HPn; clear HPn; (try simp only [World.drewN_drewN] at HP)
  obtain ⟨j, hj⟩ : ∃ z, 5 + p = z := ⟨_, rfl⟩
  have hpw : IntKind.i64.wrap (5 + p) = j := i64k hj (by have := HP3.out; omega)
  have HJ := Aside0.mk (show 5 ≤ j ∧ j < 37 by have := HP3.out; omega)
  clear hj
  obtain ⟨v, hv⟩ : ∃ z, IntKind.u8.wrap (rd X j + a3) = z := ⟨_, rfl⟩
  have HV := Aside0.mk (wrapB v (rd X j) a3 (rdB HXB.out j) HA3.out H30.out hv.symm)
  have p9 := (show 0 ≤ j by have := HJ.out; omega)
  have q9 := (show j < (X.length : Int) by have h1 := HJ.out; have h2 := HX.out; omega)
  obtain ⟨hx9, hf9⟩ := Kd.R_celln 0 (HP.out.row 0 rfl) (j) p9 q9
  replace hx9 : _ = some (Value.int .u8 (rd (X) (j))) := hx9
  replace p9 := eq_true p9
  replace q9 := eq_true q9
  have HPput := Aside0.mk (Hp.putI HP.out 0 rfl (j) (v))
  go_wp2_with fail
  clear hx9 hf9 p9 q9 HP
  have HP := HPput
  clear HPput
  refine (c_failsN (some ⟨g3, 0, none⟩) c3 (X.set j.toNat v) 11 _ X.length (by rw [List.length_set]) (Kd.R_reads' (HP.out.row 0 rfl)).2.2 (by have h_ := (Kd.R_reads' (HP.out.row 0 rfl)).2.1; first | exact h_ | (rw [List.length_set]; exact h_)) (by rw [List.length_set]; have h1 := HX.out; have h2 := HN.out; omega) (bytes_set HXB.out _ HV.out.2) (HXT.out j.toNat v (by have := HJ.out; omega) (.inl (by have := HJ.out; omega)) (by have h1 := HJ.out; have h2 := HX.out; omega) (by rw [Int.toNat_of_nonneg (by have := HJ.out; omega)]; exact HV.out.1)) (by decide)).mono ?_; rintro e w5 ⟨rfl, hb⟩; have HPn := Aside0.mk (HP.out.call hb); clear HP; have HP := HPn; clear HPn; clear hb
  clear hv HV
  obtain ⟨en, hen⟩ : ∃ z, 37 + (b.length : Int) = z := ⟨_, rfl⟩
  have hew : IntKind.i64.wrap (37 + (b.length : Int)) = en := i64k hen (by have := HN.out; omega)
  have HEN := Aside0.mk (show 37 + (b.length : Int) = en ∧ en ≤ (X.length : Int) from ⟨hen, by have := HX.out; omega⟩)
  clear hen
  have cgt : decide ((X.length : Int) < en) = false := decide_eq_false (by have := HEN.out; omega)
  by_cases c3_ : en = (X.length : Int)
  · have c3b : (en == (X.length : Int)) = true := beq_iff_eq.2 c3_
    go_wp2_with fail
    go_ret
    exact ⟨rfl, HP.out.below⟩
  have c3b : (en == (X.length : Int)) = false := beq_eq_false_iff_ne.2 c3_
  have HNE := Aside0.mk c3_
  clear c3_
  obtain ⟨df, hdf⟩ : ∃ z, (X.length : Int) - en = z := ⟨_, rfl⟩
  have hdw : IntKind.i64.wrap ((X.length : Int) - en) = df := i64k hdf (by have h1 := HEN.out; have h2 := HX.out; have h3 := HN.out; omega)
  have HDF := Aside0.mk (show (X.length : Int) - en = df ∧ 1 ≤ df ∧ df ≤ 1000000 from ⟨hdf, by have h1 := HEN.out; have h2 := HX.out; have h3 := HN.out; have h4 := HNE.out; omega⟩)
  clear hdf
  obtain ⟨q, hq, hq0, hq1⟩ := pick_f a2 df HA2.out HDF.out.2.1 HDF.out.2.2
  have HQK := Aside0.mk hq
  obtain ⟨m, hm⟩ : ∃ z, en + q = z := ⟨_, rfl⟩
  have hmw : IntKind.i64.wrap (en + q) = m := i64k hm (by have h1 := HEN.out; have h2 := HX.out; have h3 := HN.out; have h4 := HDF.out; omega)
  have HM := Aside0.mk (show en ≤ m ∧ m < (X.length : Int) by have h4 := HDF.out; omega)
  clear hq hq0 hq1 hm
  go_wp2_with fail
  refine (retconkit_Pick.calls a2 df q _ HQK.out).mono ?_; rintro e w_ ⟨rfl, nq, rfl⟩; have HPn := Aside0.mk (HP.out.drewN nq); clear HP; have HP := HPn; clear HPn; (try simp only [World.drewN_drewN] at HP)
  obtain ⟨v, hv⟩ : ∃ z, IntKind.u8.wrap (rd X m + a3) = z := ⟨_, rfl⟩
  have HV := Aside0.mk (wrapB v (rd X m) a3 (rdB HXB.out m) HA3.out H30.out hv.symm)
  have p9 := (show 0 ≤ m by have h1 := HM.out; have h2 := HEN.out; omega)
  have q9 := (show m < (X.length : Int) from HM.out.2)
  obtain ⟨hx9, hf9⟩ := Kd.R_celln 0 (HP.out.row 1 rfl) (m) p9 q9
  replace hx9 : _ = some (Value.int .u8 (rd (X) (m))) := hx9
  replace p9 := eq_true p9
  replace q9 := eq_true q9
  have HPput := Aside0.mk (Hp.putI HP.out 1 rfl (m) (v))
  go_wp2_with fail
  clear hx9 hf9 p9 q9 HP
  have HP := HPput
  clear HPput
  refine (c_failsN (some ⟨g2, 0, none⟩) c2 (X.set m.toNat v) 11 _ X.length (by rw [List.length_set]) (Kd.R_reads' (HP.out.row 1 rfl)).2.2 (by have h_ := (Kd.R_reads' (HP.out.row 1 rfl)).2.1; first | exact h_ | (rw [List.length_set]; exact h_)) (by rw [List.length_set]; have h1 := HX.out; have h2 := HN.out; omega) (bytes_set HXB.out _ HV.out.2) (HXT.out m.toNat v (by have h1 := HM.out; have h2 := HEN.out; omega) (.inr (by have h1 := HM.out; have h2 := HEN.out; omega)) (by have h1 := HM.out; have h2 := HEN.out; omega) (by rw [Int.toNat_of_nonneg (by have h1 := HM.out; have h2 := HEN.out; omega)]; exact HV.out.1)) (by decide)).mono ?_; rintro e w6 ⟨rfl, hb⟩; have HPn := Aside0.mk (HP.out.call hb); clear HP; have HP := HPn; clear HPn; clear hb
  go_wp2_with fail
  go_ret
  exact ⟨rfl, HP.out.below⟩
end Go.Proofs.Ytncmbkjjoamfjaa.H
