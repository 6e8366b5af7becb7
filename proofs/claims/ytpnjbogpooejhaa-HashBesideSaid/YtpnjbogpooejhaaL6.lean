import Derived.Test.YtpnjbogpooejhaaK5
import Derived.Test.YtpnjbogpooejhaaK6
import Derived.Test.YtpnjbogpooejhaaL5
import Derived.Test.YtpnjbogpooejhaaXHgL
namespace Go.Proofs.Ytpnjbogpooejhaa.H
open Go.RowKit Go.Proofs.Ytpnjbogpooejhaa.XH Go.Proofs.YtpnjbogpooejhaaW.PrintWords Go.Proofs.YtpnjbogpooejhaaW.PrintLast Go.Proofs.YtpnjbogpooejhaaW.PrintMore Go.Proofs.YtpnjbogpooejhaaXe Go.Proofs.YtpnjbogpooejhaaXs
set_option linter.unusedVariables false
set_option linter.unusedSimpArgs false
attribute [local go_sem ↓] Go.wp_at_zero Go.wp_at_succ
attribute [local go_sem] valUpon
attribute [local go_sem ↓ high] bn23 bn52
attribute [local go_sem high] BN23.z eq_zz
/-- those at even places, and those at odd ones -/
def evI (l : List (List Int)) : Nat → List Int
  | 0 => []
  | i + 1 => if i % 2 = 0 then evI l i ++ rd_L1 l (i : Int) else evI l i
def odI (l : List (List Int)) : Nat → List Int
  | 0 => []
  | i + 1 => if i % 2 = 0 then odI l i else odI l i ++ rd_L1 l (i : Int)
theorem eo_len (l : List (List Int)) : ∀ i, i ≤ l.length → (evI l i).length + (odI l i).length = (l.take i).flatten.length
  | 0, _ => by simp [evI, odI]
  | i + 1, h => by
    have := eo_len l i (by omega)
    rw [take_flat l i (by omega), List.length_append]
    unfold evI odI
    split <;> rw [List.length_append] <;> omega
set_option maxHeartbeats 8000000 in
set_option maxRecDepth 100000 in
theorem hashBeside_law (A : Option Addr) (c : Nat) (l : List (List Int)) (w : World) (hr : Kd.C (Kd.slice 5 (Kd.int .u8)) w A l.length l) (hc : l.length ≤ c) (hm : l.length ≤ 9223372036854775807) (hB : ∀ b ∈ l, Bytes b) : Calls Try.prog 9 #[.slice A l.length c] w fun e w' => e = .returned (.bool true) ∧ Below w.heap.size w w' := by
  obtain ⟨lb, hlf, hlong⟩ := long_l l 20 200 (by omega) 21 0 90 rfl (by omega)
  have CLG := Aside0.mk (fun w hr => retconlaw02_long.calls 90 A c l 20 200 lb w hr hc hlf)
  have HR := Aside0.mk hr
  have HP := Aside0.mk (Hp.start w)
  have HLG := Aside0.mk hlong
  clear hr hc hm hlf hlong hB
  go_enter Try.func9, Try.ntmps9
  go_wp2_with fail
  (with_reducible refine (c_awake _).mono ?_); rintro e w0 ⟨rfl, hb⟩; have HPn := Aside0.mk (HP.out.call hb); clear HP; have HP := HPn; clear HPn; clear hb
  go_wp2_with fail
  (with_reducible refine (c_new _).mono ?_); rintro e wa ⟨ga, rfl, hge, hg, hb⟩; have HPn := Aside0.mk (HP.out.newB hb hg hge); clear HP hge hg hb; have HP := HPn; clear HPn
  go_wp2_with fail
  (with_reducible refine (c_new _).mono ?_); rintro e wb ⟨gb, rfl, hge, hg, hb⟩; have HPn := Aside0.mk (HP.out.newB hb hg hge); clear HP hge hg hb; have HP := HPn; clear HPn
  go_wp2_with fail
  (with_reducible refine (c_new _).mono ?_); rintro e wc ⟨gc, rfl, hge, hg, hb⟩; have HPn := Aside0.mk (HP.out.newB hb hg hge); clear HP hge hg hb; have HP := HPn; clear HPn
  go_wp2_with fail
  (with_reducible refine (CLG.out _ (Kd.C_below HR.out HP.out.below)).mono ?_); rintro e w_ ⟨rfl, n_, rfl⟩; have HPn := Aside0.mk (HP.out.drewN n_); clear HP; have HP := HPn; clear HPn
  obtain ⟨wn3, hwn3⟩ : ∃ z, wc.drewN n_ = z := ⟨_, rfl⟩
  rw [hwn3] at HP
  rw [hwn3]
  clear hwn3
  cases lb with
  | true =>
    go_wp2_with fail
    go_ret
    exact ⟨rfl, HP.out.below⟩
  | false =>
    have hlen := (HLG.out rfl).1
    have hle := (HLG.out rfl).2
    have hfl := flat_len l 200 (fun j hj => by have := hle j (Nat.zero_le _) hj; omega)
    have HLE := Aside0.mk hle
    have HFL := Aside0.mk hfl
    have HLEN := Aside0.mk hlen
    clear hlen hle hfl HLG CLG
    go_wp2_with fail
    have HP1 := Aside0.mk (show Hp w wn3 [.row (Kd.int .u8) 5 w.heap.size (.slice none 0 0) [], .row (Kd.int .u8) 5 w.heap.size (.slice none 0 0) [], .row (Kd.int .u8) 5 w.heap.size (.slice none 0 0) [], .blk gc (.cells (dc true H0 (List.replicate 64 0) (0)).toArray 52 (0, 0)), .blk gb (.cells (dc true H0 (List.replicate 64 0) (0)).toArray 52 (0, 0)), .blk ga (.cells (dc true H0 (List.replicate 64 0) (0)).toArray 52 (0, 0))] from Hp.newR (Hp.newR (Hp.newR HP.out (Below.refl _ _) (Kd.R_nil (Kd.int .u8) 5 wn3 wn3.heap.size (fun _ => True))) (Below.refl _ _) (Kd.R_nil (Kd.int .u8) 5 wn3 wn3.heap.size (fun _ => True))) (Below.refl _ _) (Kd.R_nil (Kd.int .u8) 5 wn3 wn3.heap.size (fun _ => True)))
    clear HP
    go_loopg [7, 8, 9, 10] l.length (fun kq v7 v8 v9 v10 w' => ∃ (i : Nat) (x : Int) (va vb vc : V8) (pa pb pc : List Int), v10 = .int .i64 x ∧ Aside0 (x = (i : Int)) ∧ Aside0 (kq + i = l.length) ∧ Aside0 (DigI va pa (evI l i)) ∧ Aside0 (DigI vb pb (odI l i)) ∧ Aside0 (DigI vc pc (l.take i).flatten) ∧ Aside0 (Hp w w' [.row (Kd.int .u8) 5 w.heap.size v7 (evI l i), .row (Kd.int .u8) 5 w.heap.size v8 (odI l i), .row (Kd.int .u8) 5 w.heap.size v9 (l.take i).flatten, .blk gc (.cells (dc true vc pc (((l.take i).flatten.length : Int))).toArray 52 (0, 0)), .blk gb (.cells (dc true vb pb (((odI l i).length : Int))).toArray 52 (0, 0)), .blk ga (.cells (dc true va pa (((evI l i).length : Int))).toArray 52 (0, 0))]))
    case atStart => exact ⟨0, 0, H0, H0, H0, List.replicate 64 0, List.replicate 64 0, List.replicate 64 0, rfl, ⟨rfl⟩, ⟨by omega⟩, ⟨dig0⟩, ⟨dig0⟩, ⟨dig0⟩, HP1⟩
    clear HP1
    obtain ⟨i, x, va, vb, vc, pa, pb, pc, rfl, HX, HK, HDa, HDb, HDc, HP⟩ := hrel
    have hx1 := HX.out
    have hlen := HLEN.out
    have HEO := Aside0.mk (eo_len l i (by have := HK.out; omega))
    have HFI := Aside0.mk (HFL.out i (by have := HK.out; omega))
    by_cases c1 : i < l.length
    · have d1 : decide (x < (l.length : Int)) = true := decide_eq_true (by omega)
      have p0 : 0 ≤ x := by omega
      have q0 : x < (l.length : Int) := by omega
      have ex := i64k (x := x + 1) rfl (by omega)
      obtain ⟨ad, A1, c1', e, hx0, hl1, hi1⟩ := at_L1 HR.out x p0 q0
      cases e
      obtain ⟨b, hbq⟩ : ∃ b, rd_L1 l x = b := ⟨_, rfl⟩
      rw [hbq] at hx0 hl1 hi1
      have hbl : b.length ≤ 200 := by rw [← hbq, hx1]; have := HLE.out i (Nat.zero_le _) c1; omega
      have HX0 := Aside0.mk hx0
      have HI1 := Aside0.mk hi1
      have HL1 := Aside0.mk hl1
      have HBL := Aside0.mk hbl
      have HC1 := Aside0.mk c1
      have HTF := Aside0.mk (show (l.take (i + 1)).flatten = (l.take i).flatten ++ b by rw [take_flat l i c1, ← hx1, hbq])
      have HBQ := Aside0.mk (show rd_L1 l (i : Int) = b by rw [← hx1]; exact hbq)
      obtain ⟨E, hE⟩ : ∃ z, evI l i = z := ⟨_, rfl⟩
      obtain ⟨O, hO⟩ : ∃ z, odI l i = z := ⟨_, rfl⟩
      obtain ⟨M, hM⟩ : ∃ z, (l.take i).flatten = z := ⟨_, rfl⟩
      rw [hE, hO, hM] at HP HEO
      rw [hM] at HFI HTF
      rw [hE] at HDa
      rw [hO] at HDb
      rw [hM] at HDc
      have hel : E.length ≤ 4000 ∧ O.length ≤ 4000 ∧ M.length ≤ 4000 := by have h1 := HFI.out; have h2 := HEO.out; refine ⟨?_, ?_, ?_⟩ <;> omega
      have HEL := Aside0.mk hel
      have HEQ := Aside0.mk (And.intro hE (And.intro hO hM))
      obtain ⟨A7, c7, rfl⟩ := Kd.R_slice (HP.out.row 0 rfl)
      obtain ⟨A8, c8, rfl⟩ := Kd.R_slice (HP.out.row 1 rfl)
      obtain ⟨A9, c9, rfl⟩ := Kd.R_slice (HP.out.row 2 rfl)
      obtain ⟨M2, hM2⟩ : ∃ z, M ++ b = z := ⟨_, rfl⟩
      have HM2 := Aside0.mk hM2
      have HM2L := Aside0.mk (show M2.length ≤ 4200 by rw [← hM2, List.length_append]; omega)
      obtain ⟨sm, hsm⟩ : ∃ z, sha M2 = z := ⟨_, rfl⟩
      have hml : sm.length = 32 := by rw [← hsm]; exact sha_len _
      have heq2 : ∀ d w, (Op.equalIn (d + 2) 23 (.agg (u8s sm).toArray) (.agg (u8s sm).toArray)).run Try.prog w = .ok true w := fun d w => by rw [eq_id d w sm sm hml hml]; simp
      have HSM := Aside0.mk hsm
      have hx := cellB HP.out.below HX0.out
      obtain ⟨z, hz⟩ : ∃ z, x % 2 = z := ⟨_, rfl⟩
      have ez : Int.tmod x 2 = z := by rw [Int.tmod_eq_emod_of_nonneg (by omega)]; exact hz
      have HZ := Aside0.mk (show z = ((i % 2 : Nat) : Int) by omega)
      clear hx0 hi1 hl1 hbl hbq c1 hE hO hM hel hM2 hsm hml hz hx1 hlen HEO HFI
      by_cases c2 : z = 0
      · have d2 : (z == 0) = true := beq_iff_eq.2 c2
        have HC2 := Aside0.mk c2
        obtain ⟨L2, hL2⟩ : ∃ z, E ++ b = z := ⟨_, rfl⟩
        have HL2 := Aside0.mk hL2
        clear c2 hL2
        go_wp2_with fail
        refine (c_write HP.out 5 ga va pa E b rfl HDa.out A1 c1' HL1.out (by have := HBL.out; have := HEL.out; omega) (fun w1 v1 p1 n1 hp => Kd.C_below HI1.out hp.below)).mono ?_; rintro e w1 ⟨rfl, va2, pa2, hd, hp⟩; rw [HL2.out] at hd hp; have HPn := Aside0.mk (show Hp w w1 [.row (Kd.int .u8) 5 w.heap.size (.slice A7 E.length c7) E, .row (Kd.int .u8) 5 w.heap.size (.slice A8 O.length c8) O, .row (Kd.int .u8) 5 w.heap.size (.slice A9 M.length c9) M, .blk gc (.cells (dc true vc pc ((M.length : Int))).toArray 52 (0, 0)), .blk gb (.cells (dc true vb pb ((O.length : Int))).toArray 52 (0, 0)), .blk ga (.cells (dc true va2 pa2 ((L2.length : Int))).toArray 52 (0, 0))] from hp); have HDa2 := Aside0.mk hd; clear HP hp hd hx; have HP := HPn; clear HPn; have hx := cellB HP.out.below HX0.out
        go_wp2_with (first | ((with_reducible refine gate_builtin (b := .append) (xs := #[.tmp 43, .tmp 47]) rfl ?_); at_builtin; refine ev_append (plain_int .u8) HP.out 0 rfl (.tmp 43) (.tmp 47) 32 5 (.int .u8 0) 1 rfl Try.underlying32 info5 rfl (by decide) (by omega) _ E b _ _ _ rfl rfl rfl (Kd.C_below HI1.out HP.out.below) (by have := HBL.out; have := HEL.out; omega) ?_; intro v7 w2 hp; rw [HL2.out] at hp; clear HP; have HP := Aside0.mk hp; clear hp hx; have hx := cellB HP.out.below HX0.out; obtain ⟨A17, c17, rfl⟩ := Kd.R_slice (HP.out.row 0 rfl)))
        refine (c_write HP.out 3 gc vc pc M b rfl HDc.out A1 c1' HL1.out (by have := HBL.out; have := HEL.out; omega) (fun w1 v1 p1 n1 hp => Kd.C_below HI1.out hp.below)).mono ?_; rintro e w3 ⟨rfl, vc2, pc2, hd, hp⟩; rw [HM2.out] at hd hp; have HPn := Aside0.mk (show Hp w w3 [.row (Kd.int .u8) 5 w.heap.size (.slice A17 L2.length c17) L2, .row (Kd.int .u8) 5 w.heap.size (.slice A8 O.length c8) O, .row (Kd.int .u8) 5 w.heap.size (.slice A9 M.length c9) M, .blk gc (.cells (dc true vc2 pc2 ((M2.length : Int))).toArray 52 (0, 0)), .blk gb (.cells (dc true vb pb ((O.length : Int))).toArray 52 (0, 0)), .blk ga (.cells (dc true va2 pa2 ((L2.length : Int))).toArray 52 (0, 0))] from hp); have HDc2 := Aside0.mk hd; clear HP hp hd hx; have HP := HPn; clear HPn; have hx := cellB HP.out.below HX0.out
        go_wp2_with (first | ((with_reducible refine gate_builtin (b := .append) (xs := #[.tmp 67, .tmp 71]) rfl ?_); at_builtin; refine ev_append (plain_int .u8) HP.out 2 rfl (.tmp 67) (.tmp 71) 32 5 (.int .u8 0) 1 rfl Try.underlying32 info5 rfl (by decide) (by omega) _ M b _ _ _ rfl rfl rfl (Kd.C_below HI1.out HP.out.below) (by have := HBL.out; have := HEL.out; omega) ?_; intro v9 w4 hp; rw [HM2.out] at hp; clear HP; have HP := Aside0.mk hp; clear hp hx; have hx := cellB HP.out.below HX0.out; obtain ⟨A19, c19, rfl⟩ := Kd.R_slice (HP.out.row 2 rfl)))
        have CS := Aside0.mk (c_sum gc vc2 pc2 M2 _ (HP.out.blk 3 rfl) HDc2.out (by have := HM2L.out; omega)); rw [HSM.out] at CS
        (with_reducible refine (CS.out).mono ?_); rintro e w5 ⟨rfl, hb⟩; have HPn := Aside0.mk (HP.out.call hb); clear HP; have HP := HPn; clear HPn; clear hb hx CS; have hx := cellB HP.out.below HX0.out
        go_wp2_with fail
        have CS := Aside0.mk (c_sum gc vc2 pc2 M2 _ (HP.out.blk 3 rfl) HDc2.out (by have := HM2L.out; omega)); rw [HSM.out] at CS
        (with_reducible refine (CS.out).mono ?_); rintro e w6 ⟨rfl, hb⟩; have HPn := Aside0.mk (HP.out.call hb); clear HP; have HP := HPn; clear HPn; clear hb hx CS; have hx := cellB HP.out.below HX0.out
        go_wp2_with fail
        (with_reducible refine (c_len gc vc2 pc2 _ HDc2.out.len _ (HP.out.blk 3 rfl)).mono ?_); rintro e w_ ⟨rfl, rfl⟩
        go_wp2_with fail
        have hev : evI l (i + 1) = L2 ∧ odI l (i + 1) = O := by
          have h0 := HC2.out; have h1 := HZ.out; unfold evI odI
          rw [if_pos (by omega), if_pos (by omega), HBQ.out, HEQ.out.1, HEQ.out.2.1, HL2.out]; exact ⟨rfl, rfl⟩
        have htf : (l.take (i + 1)).flatten = M2 := by rw [HTF.out, HM2.out]
        go_roundg (gk - 1)
        case measure => have := HK.out; have := HC1.out; omega
        case rel => exact ⟨i + 1, x + 1, va2, vb, vc2, pa2, pb, pc2, by simp, ⟨by have := HX.out; omega⟩, ⟨by have := HK.out; have := HC1.out; omega⟩, by rw [hev.1]; exact HDa2, by rw [hev.2]; exact HDb, by rw [htf]; exact HDc2, by rw [hev.1, hev.2, htf]; exact HP⟩
      · have d2 : (z == 0) = false := beq_eq_false_iff_ne.2 c2
        have HC2 := Aside0.mk c2
        obtain ⟨L2, hL2⟩ : ∃ z, O ++ b = z := ⟨_, rfl⟩
        have HL2 := Aside0.mk hL2
        clear c2 hL2
        go_wp2_with fail
        refine (c_write HP.out 4 gb vb pb O b rfl HDb.out A1 c1' HL1.out (by have := HBL.out; have := HEL.out; omega) (fun w1 v1 p1 n1 hp => Kd.C_below HI1.out hp.below)).mono ?_; rintro e w1 ⟨rfl, vb2, pb2, hd, hp⟩; rw [HL2.out] at hd hp; have HPn := Aside0.mk (show Hp w w1 [.row (Kd.int .u8) 5 w.heap.size (.slice A7 E.length c7) E, .row (Kd.int .u8) 5 w.heap.size (.slice A8 O.length c8) O, .row (Kd.int .u8) 5 w.heap.size (.slice A9 M.length c9) M, .blk gc (.cells (dc true vc pc ((M.length : Int))).toArray 52 (0, 0)), .blk gb (.cells (dc true vb2 pb2 ((L2.length : Int))).toArray 52 (0, 0)), .blk ga (.cells (dc true va pa ((E.length : Int))).toArray 52 (0, 0))] from hp); have HDb2 := Aside0.mk hd; clear HP hp hd hx; have HP := HPn; clear HPn; have hx := cellB HP.out.below HX0.out
        go_wp2_with (first | ((with_reducible refine gate_builtin (b := .append) (xs := #[.tmp 55, .tmp 59]) rfl ?_); at_builtin; refine ev_append (plain_int .u8) HP.out 1 rfl (.tmp 55) (.tmp 59) 32 5 (.int .u8 0) 1 rfl Try.underlying32 info5 rfl (by decide) (by omega) _ O b _ _ _ rfl rfl rfl (Kd.C_below HI1.out HP.out.below) (by have := HBL.out; have := HEL.out; omega) ?_; intro v8 w2 hp; rw [HL2.out] at hp; clear HP; have HP := Aside0.mk hp; clear hp hx; have hx := cellB HP.out.below HX0.out; obtain ⟨A18, c18, rfl⟩ := Kd.R_slice (HP.out.row 1 rfl)))
        refine (c_write HP.out 3 gc vc pc M b rfl HDc.out A1 c1' HL1.out (by have := HBL.out; have := HEL.out; omega) (fun w1 v1 p1 n1 hp => Kd.C_below HI1.out hp.below)).mono ?_; rintro e w3 ⟨rfl, vc2, pc2, hd, hp⟩; rw [HM2.out] at hd hp; have HPn := Aside0.mk (show Hp w w3 [.row (Kd.int .u8) 5 w.heap.size (.slice A7 E.length c7) E, .row (Kd.int .u8) 5 w.heap.size (.slice A18 L2.length c18) L2, .row (Kd.int .u8) 5 w.heap.size (.slice A9 M.length c9) M, .blk gc (.cells (dc true vc2 pc2 ((M2.length : Int))).toArray 52 (0, 0)), .blk gb (.cells (dc true vb2 pb2 ((L2.length : Int))).toArray 52 (0, 0)), .blk ga (.cells (dc true va pa ((E.length : Int))).toArray 52 (0, 0))] from hp); have HDc2 := Aside0.mk hd; clear HP hp hd hx; have HP := HPn; clear HPn; have hx := cellB HP.out.below HX0.out
        go_wp2_with (first | ((with_reducible refine gate_builtin (b := .append) (xs := #[.tmp 67, .tmp 71]) rfl ?_); at_builtin; refine ev_append (plain_int .u8) HP.out 2 rfl (.tmp 67) (.tmp 71) 32 5 (.int .u8 0) 1 rfl Try.underlying32 info5 rfl (by decide) (by omega) _ M b _ _ _ rfl rfl rfl (Kd.C_below HI1.out HP.out.below) (by have := HBL.out; have := HEL.out; omega) ?_; intro v9 w4 hp; rw [HM2.out] at hp; clear HP; have HP := Aside0.mk hp; clear hp hx; have hx := cellB HP.out.below HX0.out; obtain ⟨A19, c19, rfl⟩ := Kd.R_slice (HP.out.row 2 rfl)))
        have CS := Aside0.mk (c_sum gc vc2 pc2 M2 _ (HP.out.blk 3 rfl) HDc2.out (by have := HM2L.out; omega)); rw [HSM.out] at CS
        (with_reducible refine (CS.out).mono ?_); rintro e w5 ⟨rfl, hb⟩; have HPn := Aside0.mk (HP.out.call hb); clear HP; have HP := HPn; clear HPn; clear hb hx CS; have hx := cellB HP.out.below HX0.out
        go_wp2_with fail
        have CS := Aside0.mk (c_sum gc vc2 pc2 M2 _ (HP.out.blk 3 rfl) HDc2.out (by have := HM2L.out; omega)); rw [HSM.out] at CS
        (with_reducible refine (CS.out).mono ?_); rintro e w6 ⟨rfl, hb⟩; have HPn := Aside0.mk (HP.out.call hb); clear HP; have HP := HPn; clear HPn; clear hb hx CS; have hx := cellB HP.out.below HX0.out
        go_wp2_with fail
        (with_reducible refine (c_len gc vc2 pc2 _ HDc2.out.len _ (HP.out.blk 3 rfl)).mono ?_); rintro e w_ ⟨rfl, rfl⟩
        go_wp2_with fail
        have hev : evI l (i + 1) = E ∧ odI l (i + 1) = L2 := by
          have h0 := HC2.out; have h1 := HZ.out; unfold evI odI
          rw [if_neg (by omega), if_neg (by omega), HBQ.out, HEQ.out.1, HEQ.out.2.1, HL2.out]; exact ⟨rfl, rfl⟩
        have htf : (l.take (i + 1)).flatten = M2 := by rw [HTF.out, HM2.out]
        go_roundg (gk - 1)
        case measure => have := HK.out; have := HC1.out; omega
        case rel => exact ⟨i + 1, x + 1, va, vb2, vc2, pa, pb2, pc2, by simp, ⟨by have := HX.out; omega⟩, ⟨by have := HK.out; have := HC1.out; omega⟩, by rw [hev.1]; exact HDa, by rw [hev.2]; exact HDb2, by rw [htf]; exact HDc2, by rw [hev.1, hev.2, htf]; exact HP⟩
    · have d1 : decide (x < (l.length : Int)) = false := decide_eq_false (by have := HK.out; omega)
      obtain rfl : i = l.length := by have := HK.out; omega
      obtain ⟨E, hE⟩ : ∃ z, evI l l.length = z := ⟨_, rfl⟩
      obtain ⟨O, hO⟩ : ∃ z, odI l l.length = z := ⟨_, rfl⟩
      obtain ⟨M, hM⟩ : ∃ z, (l.take l.length).flatten = z := ⟨_, rfl⟩
      rw [hE, hO, hM] at HP HEO
      rw [hM] at HFI
      rw [hE] at HDa
      rw [hO] at HDb
      rw [hM] at HDc
      have hel : E.length ≤ 4000 ∧ O.length ≤ 4000 ∧ M.length ≤ 4000 := by have h1 := HFI.out; have h2 := HEO.out; refine ⟨?_, ?_, ?_⟩ <;> omega
      have HEL := Aside0.mk hel
      obtain ⟨A7, c7, rfl⟩ := Kd.R_slice (HP.out.row 0 rfl)
      obtain ⟨A8, c8, rfl⟩ := Kd.R_slice (HP.out.row 1 rfl)
      obtain ⟨A9, c9, rfl⟩ := Kd.R_slice (HP.out.row 2 rfl)
      obtain ⟨sa, hsa⟩ : ∃ z, sha E = z := ⟨_, rfl⟩
      have hla : sa.length = 32 := by rw [← hsa]; exact sha_len _
      have heqa : ∀ d w, (Op.equalIn (d + 2) 23 (.agg (u8s sa).toArray) (.agg (u8s sa).toArray)).run Try.prog w = .ok true w := fun d w => by rw [eq_id d w sa sa hla hla]; simp
      have HSa := Aside0.mk hsa
      clear hsa hla
      obtain ⟨sb, hsb⟩ : ∃ z, sha O = z := ⟨_, rfl⟩
      have hlb : sb.length = 32 := by rw [← hsb]; exact sha_len _
      have heqb : ∀ d w, (Op.equalIn (d + 2) 23 (.agg (u8s sb).toArray) (.agg (u8s sb).toArray)).run Try.prog w = .ok true w := fun d w => by rw [eq_id d w sb sb hlb hlb]; simp
      have HSb := Aside0.mk hsb
      clear hsb hlb
      obtain ⟨sc, hsc⟩ : ∃ z, sha M = z := ⟨_, rfl⟩
      have hlc : sc.length = 32 := by rw [← hsc]; exact sha_len _
      have heqc : ∀ d w, (Op.equalIn (d + 2) 23 (.agg (u8s sc).toArray) (.agg (u8s sc).toArray)).run Try.prog w = .ok true w := fun d w => by rw [eq_id d w sc sc hlc hlc]; simp
      have HSc := Aside0.mk hsc
      clear hsc hlc
      have esum : IntKind.i64.wrap ((E.length : Int) + (O.length : Int)) = (M.length : Int) := i64k (by have := HEO.out; omega) (by omega)
      clear hx1 hlen c1 hel hE hO hM
      go_wp2_with fail
      have CS := Aside0.mk (c_sum ga va pa E _ (HP.out.blk 5 rfl) HDa.out (by have := HEL.out; omega)); rw [HSa.out] at CS
      (with_reducible refine (CS.out).mono ?_); rintro e wsa ⟨rfl, hb⟩; have HPn := Aside0.mk (HP.out.call hb); clear HP; have HP := HPn; clear HPn; clear hb CS
      go_wp2_with fail
      have CS := Aside0.mk (c_hsum A7 c7 E _ (Kd.R_reads' (HP.out.row 0 rfl)).2.2 (Kd.R_reads' (HP.out.row 0 rfl)).2.1 (by have := HEL.out; omega)); rw [HSa.out] at CS
      (with_reducible refine (CS.out).mono ?_); rintro e wta ⟨rfl, hb⟩; have HPn := Aside0.mk (HP.out.call hb); clear HP; have HP := HPn; clear HPn; clear hb CS
      go_wp2_with fail
      have CS := Aside0.mk (c_sum gb vb pb O _ (HP.out.blk 4 rfl) HDb.out (by have := HEL.out; omega)); rw [HSb.out] at CS
      (with_reducible refine (CS.out).mono ?_); rintro e wsb ⟨rfl, hb⟩; have HPn := Aside0.mk (HP.out.call hb); clear HP; have HP := HPn; clear HPn; clear hb CS
      go_wp2_with fail
      have CS := Aside0.mk (c_hsum A8 c8 O _ (Kd.R_reads' (HP.out.row 1 rfl)).2.2 (Kd.R_reads' (HP.out.row 1 rfl)).2.1 (by have := HEL.out; omega)); rw [HSb.out] at CS
      (with_reducible refine (CS.out).mono ?_); rintro e wtb ⟨rfl, hb⟩; have HPn := Aside0.mk (HP.out.call hb); clear HP; have HP := HPn; clear HPn; clear hb CS
      go_wp2_with fail
      have CS := Aside0.mk (c_sum gc vc pc M _ (HP.out.blk 3 rfl) HDc.out (by have := HEL.out; omega)); rw [HSc.out] at CS
      (with_reducible refine (CS.out).mono ?_); rintro e wsc ⟨rfl, hb⟩; have HPn := Aside0.mk (HP.out.call hb); clear HP; have HP := HPn; clear HPn; clear hb CS
      go_wp2_with fail
      have CS := Aside0.mk (c_hsum A9 c9 M _ (Kd.R_reads' (HP.out.row 2 rfl)).2.2 (Kd.R_reads' (HP.out.row 2 rfl)).2.1 (by have := HEL.out; omega)); rw [HSc.out] at CS
      (with_reducible refine (CS.out).mono ?_); rintro e wtc ⟨rfl, hb⟩; have HPn := Aside0.mk (HP.out.call hb); clear HP; have HP := HPn; clear HPn; clear hb CS
      go_wp2_with fail
      (with_reducible refine (c_len ga va pa _ HDa.out.len _ (HP.out.blk 5 rfl)).mono ?_); rintro e w_ ⟨rfl, rfl⟩
      go_wp2_with fail
      (with_reducible refine (c_len gb vb pb _ HDb.out.len _ (HP.out.blk 4 rfl)).mono ?_); rintro e w_ ⟨rfl, rfl⟩
      go_wp2_with fail
      (with_reducible refine (c_len gc vc pc _ HDc.out.len _ (HP.out.blk 3 rfl)).mono ?_); rintro e w_ ⟨rfl, rfl⟩
      go_wp2_with fail
      go_ret
      exact ⟨rfl, HP.out.below⟩
end Go.Proofs.Ytpnjbogpooejhaa.H
