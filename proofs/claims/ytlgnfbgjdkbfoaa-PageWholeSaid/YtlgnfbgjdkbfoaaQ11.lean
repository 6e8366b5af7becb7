import Derived.Test.YtlgnfbgjdkbfoaaQ10
namespace Go.Proofs.Ytlgnfbgjdkbfoaa.Pg
open Go.RowKit Go.Proofs.Ytlgnfbgjdkbfoaa.XH Go.Proofs.Ytlgnfbgjdkbfoaa.Wd Go.Proofs.YtlgnfbgjdkbfoaaW.PrintWords Go.Proofs.YtlgnfbgjdkbfoaaW.PrintLast Go.Proofs.YtlgnfbgjdkbfoaaW.PrintMore Go.Proofs.YtlgnfbgjdkbfoaaXe Go.Proofs.YtlgnfbgjdkbfoaaXs
set_option linter.unusedVariables false
set_option linter.unusedSimpArgs false
attribute [local go_sem ↓] Go.wp_at_zero Go.wp_at_succ
set_option maxHeartbeats 8000000 in
set_option maxRecDepth 100000 in
theorem pageWhole_law (A : Option Addr) (c : Nat) (l : List ByteArray) (lv : Int) (W : World) (hr : KS.C W A l.length l) (hc : l.length ≤ c) (hl : l.length ≤ 1000000000000000000) :
    Calls Try.prog 6 #[.slice A l.length c, .int .i64 lv] W fun e W' => e = .returned (.bool true) ∧ Below W.heap.size W W' := by
  have HR := Aside0.mk hr
  have HC := Aside0.mk hc
  have HL := Aside0.mk hl
  have HP := Aside0.mk (Hp.start W)
  clear hr hc hl
  go_enter Try.func6, Try.ntmps6
  go_wp2_with fail
  refine (c_awake _).mono ?_; rintro e w0a ⟨rfl, hb⟩
  have HPn := Aside0.mk (HP.out.call hb)
  clear HP hb
  have HP := HPn
  clear HPn
  go_wp2_with fail
  obtain ⟨kk, bb, hlk, hlf⟩ := long_keys l (by have := HL.out; omega)
  have HLF := Aside0.mk hlf
  have HLK := Aside0.mk (retconkit_LongKeys.calls kk A c l 100 bb w0a (Kd.C_below HR.out HP.out.below) HC.out hlk)
  clear hlk hlf
  refine HLK.out.mono ?_; rintro e wf ⟨rfl, hd⟩
  obtain ⟨nd_, rfl⟩ := hd
  have HPn := Aside0.mk (HP.out.drewN nd_)
  clear HP HLK
  have HP := HPn
  clear HPn
  obtain ⟨wa, hwa⟩ : ∃ z, w0a.drewN nd_ = z := ⟨_, rfl⟩
  rw [hwa] at HP ⊢
  clear hwa
  cases bb with
  | true =>
    go_wp2_with fail
    go_ret
    exact ⟨rfl, HP.out.below⟩
  | false =>
    have HLE := Aside0.mk (HLF.out rfl)
    go_wp2_with fail
    refine (c_cuts A c l lv _ (Kd.C_below HR.out HP.out.below) (by have := HLE.out.1; omega) (fun s hs => by have := HLE.out.2 s hs; omega)).mono ?_; rintro e wb ⟨v1, rfl, ho, hb⟩
    have HPn := Aside0.mk (HP.out.newR hb ho)
    clear HP hb ho
    have HP := HPn
    clear HPn
    obtain ⟨A1, c1, rfl⟩ := Kd.R_slice (HP.out.row 0 rfl)
    obtain ⟨C, hCe⟩ : ∃ C, cutsS l lv = C := ⟨_, rfl⟩
    rw [hCe] at HP ⊢
    have HCE := Aside0.mk hCe
    clear hCe
    by_cases hko : lvOk lv = true
    case neg =>
      have HC0 := Aside0.mk (show C = [] from by have h := HCE.out; rw [cutsS, if_neg hko] at h; exact h.symm)
      simp only [lvOk, Bool.and_eq_true, decide_eq_true_eq] at hko
      rw [HC0.out] at HP ⊢
      simp only [List.length_nil]
      by_cases hlv : lv < 0
      · have f3 : decide (lv < 0) = true := decide_eq_true hlv
        clear hlv hko
        go_wp2_with fail
        go_ret
        exact ⟨rfl, HP.out.below⟩
      · have f3 : decide (lv < 0) = false := decide_eq_false hlv
        have f4 : decide (20 < lv) = true := decide_eq_true (by omega)
        clear hlv hko
        go_wp2_with fail
        go_ret
        exact ⟨rfl, HP.out.below⟩
    have HLV := Aside0.mk hko
    simp only [lvOk, Bool.and_eq_true, decide_eq_true_eq] at hko
    have f3 : decide (lv < 0) = false := decide_eq_false (by omega)
    have f4 : decide (20 < lv) = false := decide_eq_false (by omega)
    have HCG := Aside0.mk (show cutGo lv l 0 = C from by have h := HCE.out; rwa [cutsS, if_pos HLV.out] at h)
    have HCL := Aside0.mk (show C.length ≤ 100 from by have h1 := cutGo_len lv l 0; rw [HCG.out] at h1; have := HLE.out.1; omega)
    have HLL := Aside0.mk (show l.length ≤ 100 from HLE.out.1)
    have HSZ := Aside0.mk (show ∀ k ∈ l, k.size ≤ 1000000 from fun k hk => by have := HLE.out.2 k hk; omega)
    clear hko
    go_wp2_with fail
    go_loopg [7, 8] C.length (fun kq v7 v8 w' => ∃ (i : Nat) (x a : Int), v7 = .int .i64 a ∧ v8 = .int .i64 x ∧ Aside0 (x = (i : Int)) ∧ Aside0 (kq + i = C.length) ∧ Aside0 (a = (C.take i).sum) ∧ Aside0 (Hp W w' [.row (Kd.int .i64) 3 W.heap.size (.slice A1 C.length c1) C]))
    case atStart => exact ⟨0, 0, 0, rfl, rfl, ⟨rfl⟩, ⟨rfl⟩, ⟨rfl⟩, HP⟩
    clear HP
    obtain ⟨i, x, a, rfl, rfl, HX, HK, HA, HP⟩ := hrel
    obtain ⟨GK, hGK⟩ : ∃ z, gk = z := ⟨_, rfl⟩
    rw [hGK] at HK
    have HGK := Aside0.mk hGK
    by_cases ci : i < C.length
    case neg =>
      have d1 : decide (x < (C.length : Int)) = false := decide_eq_false (by have := HX.out; omega)
      have HEQ := Aside0.mk (show a = (l.length : Int) from by
        obtain ⟨s, t1, t2, t3, _⟩ := cut_at lv i l (by rw [HCG.out]; have := HK.out; omega)
        rw [HCG.out] at t1 t3
        have hnil : C.drop i = [] := List.drop_of_length_le (by omega)
        rw [hnil] at t3
        have := congrArg List.length (cut_nil t3)
        rw [List.length_drop, List.length_nil] at this
        rw [HA.out, t1]
        omega)
      have q1 : decide (a = (l.length : Int)) = true := decide_eq_true HEQ.out
      have q2 : (a == (l.length : Int)) = true := by simpa using HEQ.out
      clear ci
      go_wp2_with fail
      go_ret
      exact ⟨rfl, HP.out.below⟩
    obtain ⟨s, d, t1, t2, t3, t4, t5, t6, t7, t8, t9⟩ := cut_page lv l i (by rw [HCG.out]; exact ci)
    rw [HCG.out] at t1 t2 t6 t7
    obtain ⟨y, hy⟩ : ∃ y : Int, (d : Int) = y := ⟨_, rfl⟩
    rw [hy] at t2
    have HIC := Aside0.mk ci
    have HAS := Aside0.mk (show a = (s : Int) from by rw [HA.out, t1])
    have HY := Aside0.mk hy.symm
    have HD1 := Aside0.mk (And.intro t3 t4)
    have HSD := Aside0.mk t5
    have HSUM := Aside0.mk (show (C.take (i + 1)).sum = ((s + d : Nat) : Int) from t6).symm
    have HLAST := Aside0.mk t7
    have HIN := Aside0.mk t8
    have HEND := Aside0.mk t9
    obtain ⟨Lb, Lo, hA⟩ := C_addrK (by decide) HR.out (show 0 < l.length by omega)
    subst hA
    obtain ⟨Ab, Ao, hA⟩ := C_addrK (by decide) (Kd.R_reads' (HP.out.row 0 rfl)).2.2 (by omega)
    subst hA
    have HYC := Aside0.mk (fun (w' : World) (hp : Hp W w' [.row (Kd.int .i64) 3 W.heap.size (.slice (some ⟨Ab, Ao, none⟩) C.length c1) C]) => (show w'.cell? ⟨Ab, Ao + x.toNat, none⟩ = some (.int .i64 y) from by
      obtain ⟨cs, hcs, hra⟩ := range_K (Kd.R_reads' (hp.row 0 rfl)).2.2 t2
      have hcs2 : cs = [.int .i64 y] := hcs
      subst hcs2
      have h0 := hra 0 _ rfl
      rw [show x.toNat = i by have := HX.out; omega]
      simpa [show (Kd.int .i64).sz = 1 from rfl] using h0))
    have HKC := Aside0.mk (fun (m : Nat) (z : Int) (k : ByteArray) (hk : l[m]? = some k) (hz : z = (m : Int)) (w' : World) (hb : Below W.heap.size W w') => (show w'.cell? ⟨Lb, Lo + z.toNat, none⟩ = some (.string k) from by
      obtain ⟨cs, hcs, hra⟩ := range_K HR.out hk
      have hcs2 : cs = [.string k] := hcs
      subst hcs2
      have h0 := hra 0 _ rfl
      have h0' : W.cell? ⟨Lb, Lo + z.toNat, none⟩ = some (.string k) := by rw [show z.toNat = m by omega]; simpa [show (Kd.string).sz = 1 from rfl] using h0
      exact (hb.cell (World.block_lt_of_cell? W _ h0')).trans h0'))
    have d1 : decide (x < (C.length : Int)) = true := decide_eq_true (by have := HX.out; omega)
    have p0 : 0 ≤ x := by have := HX.out; omega
    have q0 : x < (C.length : Int) := by have := HX.out; omega
    have ex : IntKind.i64.wrap (x + 1) = x + 1 := IntWalk.i64_in _ (by have := HCL.out; omega)
    have el : IntKind.i64.wrap ((C.length : Int) - 1) = (C.length : Int) - 1 := IntWalk.i64_in _ (by have := HCL.out; omega)
    have ey : IntKind.i64.wrap (a + y) = a + y := IntWalk.i64_in _ (by have := HAS.out; have := HLL.out; omega)
    obtain ⟨q, hq⟩ : ∃ q, a + y - 1 = q := ⟨_, rfl⟩
    have HQE := Aside0.mk hq
    have ey1 : IntKind.i64.wrap (a + y - 1) = q := by rw [← hq]; exact IntWalk.i64_in _ (by have := HAS.out; have := HLL.out; omega)
    clear hq
    have y1 : decide (y < 1) = false := decide_eq_false (by omega)
    have y2 : decide (16 < y) = false := decide_eq_false (by omega)
    have y3 : decide ((l.length : Int) < a + y) = false := decide_eq_false (by have := HAS.out; omega)
    obtain ⟨b, hb⟩ : ∃ b, decide (x = (C.length : Int) - 1) = b := ⟨_, rfl⟩
    have hb2 : (x == (C.length : Int) - 1) = b := by rw [← hb]; rfl
    have HBL := Aside0.mk (show b = true ↔ i + 1 = C.length from by rw [← hb, decide_eq_true_eq]; have := HX.out; omega)
    clear ci hy t1 t2 t3 t4 t5 t6 t7 t8 t9 hGK
    have hyc := HYC.out _ HP.out
    go_upto_region 12 with fail
    (try simp only [Act.put, List.setIfInBounds_toArray, List.set_cons_zero, List.set_cons_succ])
    go_cut [78] (fun v78 wc => v78 = .bool false ∧ Aside0 (Hp W wc [.row (Kd.int .i64) 3 W.heap.size (.slice (some ⟨Ab, Ao, none⟩) C.length c1) C]))
    case first =>
      by_cases hlv : 0 < lv
      · have z1 : decide (0 < lv) = true := decide_eq_true hlv
        by_cases hy2 : y < 2
        · have z2 : decide (y < 2) = true := decide_eq_true hy2
          have hbt : b = true := by
            rw [HBL.out]
            have hk : s + d - 1 < l.length := by have := HSD.out; have := HD1.out; omega
            obtain ⟨zz, hzz⟩ : ∃ z, l[s + d - 1]? = some z := ⟨_, List.getElem?_eq_getElem hk⟩
            have h := HEND.out zz hzz
            have hd1 : d = 1 := by have := HY.out; have := HD1.out; omega
            by_cases hw : s + d = l.length
            · exact HLAST.out.1 hw
            · exfalso
              rw [decide_eq_false hw, hd1] at h
              unfold endB at h
              rw [decide_eq_false (show ¬ (lv = 0) by omega)] at h
              simp at h
          clear hlv hy2
          subst hbt
          go_wp2_with fail
          go_meet
          case rel => exact ⟨rfl, HP⟩
        · have z2 : decide (y < 2) = false := decide_eq_false hy2
          clear hlv hy2
          go_wp2_with fail
          go_meet
          case rel => exact ⟨rfl, HP⟩
      · have z1 : decide (0 < lv) = false := decide_eq_false hlv
        clear hlv
        go_wp2_with fail
        go_meet
        case rel => exact ⟨rfl, HP⟩
    case rest =>
    clear HP hyc hb hb2 y1 y2 y3
    obtain ⟨rfl, HP⟩ := hcut
    go_wp2_with fail
    go_loopg [10] (d - 1) (fun kq v10 w' => ∃ (j : Nat) (k : Int), v10 = .int .i64 k ∧ Aside0 (k = a + (j : Int)) ∧ Aside0 (kq + j = d - 1) ∧ Aside0 (Hp W w' [.row (Kd.int .i64) 3 W.heap.size (.slice (some ⟨Ab, Ao, none⟩) C.length c1) C]))
    case atStart => exact ⟨0, a, rfl, ⟨by omega⟩, ⟨by omega⟩, HP⟩
    clear HP
    obtain ⟨j, k, rfl, HKJ, HJ, HP⟩ := hrel
    have hyc := HYC.out _ HP.out
    by_cases cj : j < d - 1
    · have e1 : decide (k < q) = true := decide_eq_true (by have := HQE.out; have := HKJ.out; have := HY.out; omega)
      have p1 : 0 ≤ k := by have := HKJ.out; have := HAS.out; omega
      have q1 : k < (l.length : Int) := by have := HKJ.out; have := HAS.out; have := HSD.out; omega
      have ek : IntKind.i64.wrap (k + 1) = k + 1 := IntWalk.i64_in _ (by have := HLL.out; omega)
      obtain ⟨z, hz⟩ : ∃ z, l[s + j]? = some z := ⟨_, List.getElem?_eq_getElem (by have := HSD.out; omega)⟩
      have hkc := HKC.out (s + j) k z hz (by have := HKJ.out; have := HAS.out; push_cast; omega) _ HP.out.below
      have HZS := Aside0.mk (HSZ.out z (List.mem_of_getElem? hz))
      have HNE := Aside0.mk (HIN.out j z (by omega) hz)
      have HCJ := Aside0.mk cj
      clear hz cj
      go_wp2_with fail
      refine (c_ends z lv HZS.out _).mono ?_; rintro e we ⟨rfl, hb⟩
      have HPn := Aside0.mk (HP.out.call hb)
      clear HP hb
      have HP := HPn
      clear HPn
      cases hq : endsS z lv with
      | true =>
        have h0 := HNE.out
        unfold endB at h0
        rw [hq] at h0
        simp only [Bool.or_eq_false_iff, Bool.and_true, decide_eq_false_iff_not] at h0
        have z1 : decide (lv = 0) = false := decide_eq_false h0.2.2
        have z2 : (lv == 0) = false := by simpa using h0.2.2
        have z3 : decide (a < k) = false := decide_eq_false (by have := HKJ.out; have := h0.2.1; omega)
        clear h0 hyc hkc
        go_wp2_with fail
        go_roundg (gk - 1)
        case measure => have := HJ.out; have := HCJ.out; omega
        case rel => exact ⟨j + 1, k + 1, rfl, ⟨by have := HKJ.out; push_cast; omega⟩, ⟨by have := HJ.out; have := HCJ.out; omega⟩, HP⟩
      | false =>
        clear hyc hkc
        go_wp2_with fail
        go_roundg (gk - 1)
        case measure => have := HJ.out; have := HCJ.out; omega
        case rel => exact ⟨j + 1, k + 1, rfl, ⟨by have := HKJ.out; push_cast; omega⟩, ⟨by have := HJ.out; have := HCJ.out; omega⟩, HP⟩
    · have e1 : decide (k < q) = false := decide_eq_false (by have := HQE.out; have := HKJ.out; have := HY.out; have := HD1.out; omega)
      clear cj
      cases b with
      | true =>
        go_wp2_with fail
        go_roundg (GK - 1)
        case measure => have := HGK.out; have := HK.out; have := HIC.out; omega
        case rel => exact ⟨i + 1, x + 1, a + y, rfl, rfl, ⟨by have := HX.out; omega⟩, ⟨by have := HK.out; have := HIC.out; omega⟩, ⟨by rw [← HSUM.out, HY.out, HAS.out]; push_cast; rfl⟩, HP⟩
      | false =>
        by_cases hy16 : y < 16
        · have z1 : decide (y < 16) = true := decide_eq_true hy16
          have p1 : 0 ≤ q := by have := HQE.out; have := HAS.out; have := HY.out; have := HD1.out; omega
          have q1 : q < (l.length : Int) := by have := HQE.out; have := HAS.out; have := HY.out; have := HSD.out; omega
          obtain ⟨z, hz⟩ : ∃ z, l[s + d - 1]? = some z := ⟨_, List.getElem?_eq_getElem (by have := HSD.out; have := HD1.out; omega)⟩
          have hkc := HKC.out (s + d - 1) q z hz (by have := HQE.out; have := HAS.out; have := HY.out; have := HD1.out; omega) _ HP.out.below
          have HZS := Aside0.mk (HSZ.out z (List.mem_of_getElem? hz))
          have HQ := Aside0.mk (show endsS z lv = true from by
            have h := HEND.out z hz
            have hnl : ¬ (s + d = l.length) := fun hw => by
              have := HBL.out.2 (HLAST.out.1 hw)
              cases this
            rw [decide_eq_false hnl] at h
            unfold endB at h
            rw [decide_eq_false (show ¬ (d - 1 + 1 = 16) by have := HY.out; have := HD1.out; omega), Bool.false_or, Bool.false_or, Bool.and_eq_true] at h
            exact h.2)
          clear hz hy16
          go_wp2_with fail
          refine (c_ends z lv HZS.out _).mono ?_; rintro e we ⟨rfl, hb⟩
          have HPn := Aside0.mk (HP.out.call hb)
          clear HP hb
          have HP := HPn
          clear HPn
          rw [HQ.out]
          go_wp2_with fail
          go_roundg (GK - 1)
          case measure => have := HGK.out; have := HK.out; have := HIC.out; omega
          case rel => exact ⟨i + 1, x + 1, a + y, rfl, rfl, ⟨by have := HX.out; omega⟩, ⟨by have := HK.out; have := HIC.out; omega⟩, ⟨by rw [← HSUM.out, HY.out, HAS.out]; push_cast; rfl⟩, HP⟩
        · have z1 : decide (y < 16) = false := decide_eq_false hy16
          clear hy16
          go_wp2_with fail
          go_roundg (GK - 1)
          case measure => have := HGK.out; have := HK.out; have := HIC.out; omega
          case rel => exact ⟨i + 1, x + 1, a + y, rfl, rfl, ⟨by have := HX.out; omega⟩, ⟨by have := HK.out; have := HIC.out; omega⟩, ⟨by rw [← HSUM.out, HY.out, HAS.out]; push_cast; rfl⟩, HP⟩
end Go.Proofs.Ytlgnfbgjdkbfoaa.Pg
