import Derived.Test.YtpnjbogpooejhaaK5
import Derived.Test.YtpnjbogpooejhaaS4
namespace Go.Proofs.Ytpnjbogpooejhaa.H
open Go.RowKit Go.Proofs.Ytpnjbogpooejhaa.XH Go.Proofs.YtpnjbogpooejhaaW.PrintWords Go.Proofs.YtpnjbogpooejhaaW.PrintLast Go.Proofs.YtpnjbogpooejhaaW.PrintMore Go.Proofs.YtpnjbogpooejhaaXe Go.Proofs.YtpnjbogpooejhaaXs
set_option linter.unusedVariables false
set_option linter.unusedSimpArgs false
attribute [local go_sem ↓] Go.wp_at_zero Go.wp_at_succ
attribute [local go_sem] valUpon
theorem run_make8k (n : Nat) (hn : n ≤ 281474976710656) (w : World) : (Instr.makeSlice 32 (.int .i64 (n : Int)) (.int .i64 (n : Int))).run Try.prog w = .ok (.slice (some ⟨w.heap.size, 0, none⟩) n n) (w.alloc (.cells (u8s (List.replicate n 0)).toArray 5)) := by
  obtain ⟨i, hi, hz, hs, hb⟩ := info_parts info5
  have h := run_make (P := Try.prog) w 32 5 i _ Try.underlying32 hi hz .i64 .i64 n n (by omega) (by omega) (by rw [hb]; omega) (by omega)
  rw [Int.toNat_natCast, hs] at h
  rw [h]
  congr 3
  apply Array.ext'
  simp [madeCells, Value.cells, u8s, Nat.mod_one, List.map_const']
theorem C_blkM {w : World} {g : Nat} {l : List Int} {t : TypeId} {k : IntKind} (hg : w.heap[g]? = some (.cells (l.map (Value.int k)).toArray t (0, 0))) (hl : l.length ≤ 9223372036854775807) : Kd.C (Kd.int k) w (some ⟨g, 0, none⟩) l.length l := C_blkL hg hl
def partA (j : Nat) : List Int := List.replicate j 97 ++ List.replicate (1000 - j) 0
theorem partA_len (j : Nat) (h : j ≤ 1000) : (partA j).length = 1000 := by simp [partA]; omega
theorem partA_step (j : Nat) (h : j < 1000) : (partA j).set j 97 = partA (j + 1) := by
  unfold partA
  rw [List.set_append_right _ _ (by simp), List.length_replicate, Nat.sub_self, show 1000 - j = (1000 - (j + 1)) + 1 by omega, List.replicate_succ, List.set_cons_zero, List.replicate_succ', List.append_assoc]
  rfl
theorem ev_m : strOfNums (txI [205, 199, 110, 92, 153, 20, 251, 146, 129, 161, 199, 226, 132, 215, 62, 103, 241, 128, 154, 72, 164, 151, 32, 14, 4, 109, 57, 204, 199, 17, 44, 208]) = ⟨#[99, 100, 99, 55, 54, 101, 53, 99, 57, 57, 49, 52, 102, 98, 57, 50, 56, 49, 97, 49, 99, 55, 101, 50, 56, 52, 100, 55, 51, 101, 54, 55, 102, 49, 56, 48, 57, 97, 52, 56, 97, 52, 57, 55, 50, 48, 48, 101, 48, 52, 54, 100, 51, 57, 99, 99, 99, 55, 49, 49, 50, 99, 100, 48]⟩ := by kernel_rfl
set_option maxRecDepth 1000000 in
theorem ev_long : strOfNums (txI (sha (bysI ⟨#[97, 98, 99, 100, 98, 99, 100, 101, 99, 100, 101, 102, 100, 101, 102, 103, 101, 102, 103, 104, 102, 103, 104, 105, 103, 104, 105, 106, 104, 105, 106, 107, 105, 106, 107, 108, 106, 107, 108, 109, 107, 108, 109, 110, 108, 109, 110, 111, 109, 110, 111, 112, 110, 111, 112, 113]⟩))) = ⟨#[50, 52, 56, 100, 54, 97, 54, 49, 100, 50, 48, 54, 51, 56, 98, 56, 101, 53, 99, 48, 50, 54, 57, 51, 48, 99, 51, 101, 54, 48, 51, 57, 97, 51, 51, 99, 101, 52, 53, 57, 54, 52, 102, 102, 50, 49, 54, 55, 102, 54, 101, 99, 101, 100, 100, 52, 49, 57, 100, 98, 48, 54, 99, 49]⟩ := by kernel_rfl
theorem ev_n63 : retconlaw02_noughts.f 70 63 = some (strOfNums (List.replicate 63 48)) := by kernel_rfl
theorem ev_n65 : retconlaw02_noughts.f 72 65 = some (strOfNums (List.replicate 65 48)) := by kernel_rfl
theorem ev_n64 : retconlaw02_noughts.f 71 64 = some (strOfNums (List.replicate 64 48)) := by kernel_rfl
theorem ev_q63 : parS (⟨#[103]⟩ ++ strOfNums (List.replicate 63 48)) = ⟨z32, 4, 0⟩ := by kernel_rfl
theorem ev_q65 : parS (strOfNums (List.replicate 65 48)) = ⟨z32, 4, 64⟩ := by kernel_rfl
theorem ev_q64 : parS (strOfNums (List.replicate 64 48) ++ ⟨#[45]⟩) = ⟨z32, 4, 64⟩ := by kernel_rfl
theorem ev_z63 : (⟨#[103]⟩ ++ strOfNums (List.replicate 63 48) : ByteArray).size ≤ 100000000000000 := by decide +kernel
theorem ev_z65 : (strOfNums (List.replicate 65 48)).size ≤ 100000000000000 := by decide +kernel
theorem ev_z64 : (strOfNums (List.replicate 64 48) ++ ⟨#[45]⟩ : ByteArray).size ≤ 100000000000000 := by decide +kernel
set_option maxHeartbeats 8000000 in
set_option maxRecDepth 100000 in
theorem hashKnown_law (w : World) : Calls Try.prog 8 #[] w fun e w' => e = .returned (.bool true) ∧ Below w.heap.size w w' := by
  have HP := Aside0.mk (Hp.start w)
  obtain ⟨s63, hs63⟩ : ∃ s, strOfNums (List.replicate 63 48) = s := ⟨_, rfl⟩
  obtain ⟨s65, hs65⟩ : ∃ s, strOfNums (List.replicate 65 48) = s := ⟨_, rfl⟩
  obtain ⟨s64, hs64⟩ : ∃ s, strOfNums (List.replicate 64 48) = s := ⟨_, rfl⟩
  have N63 := Aside0.mk (fun w => retconlaw02_noughts.calls 70 63 _ w ev_n63)
  have N65 := Aside0.mk (fun w => retconlaw02_noughts.calls 72 65 _ w ev_n65)
  have N64 := Aside0.mk (fun w => retconlaw02_noughts.calls 71 64 _ w ev_n64)
  have Q63 := Aside0.mk (fun w => c_stops _ ev_z63 0 ev_q63 w)
  have Q65 := Aside0.mk (fun w => c_stops _ ev_z65 64 ev_q65 w)
  have Q64 := Aside0.mk (fun w => c_stops _ ev_z64 64 ev_q64 w)
  have z63 : ¬ 9223372036854775807 < 1 + (strOfNums (List.replicate 63 48)).size := by decide +kernel
  have z64 : ¬ 9223372036854775807 < (strOfNums (List.replicate 64 48)).size + 1 := by decide +kernel
  rw [hs63] at N63 Q63 z63
  rw [hs65] at N65 Q65
  rw [hs64] at N64 Q64 z64
  clear hs63 hs65 hs64
  go_enter Try.func8, Try.ntmps8
  go_wp2_with fail
  (with_reducible refine (c_new _).mono ?_); rintro e w1 ⟨gd, rfl, hge, hg, hb⟩; have HPn := Aside0.mk (HP.out.newB hb hg hge); clear HP hge hg hb; have HP := HPn; clear HPn
  have hmk : (Instr.makeSlice 32 (.int .i64 1000) (.int .i64 1000)).run Try.prog w1 = .ok (.slice (some ⟨w1.heap.size, 0, none⟩) 1000 1000) (w1.alloc (.cells (u8s (partA 0)).toArray 5)) := run_make8k 1000 (by decide) w1
  have HP1 := Aside0.mk (show Hp w (w1.alloc (.cells (u8s (partA 0)).toArray 5 (0, 0))) [.blk w1.heap.size (.cells (u8s (partA 0)).toArray 5 (0, 0)), .blk gd (.cells (dc true H0 (List.replicate 64 0) 0).toArray 52 (0, 0))] from HP.out.alloc (.cells (u8s (partA 0)).toArray 5 (0, 0)))
  obtain ⟨g, hg⟩ : ∃ g, w1.heap.size = g := ⟨_, rfl⟩
  obtain ⟨w2, hw2⟩ : ∃ w2, w1.alloc (.cells (u8s (partA 0)).toArray 5 (0, 0)) = w2 := ⟨_, rfl⟩
  rw [hw2, hg] at HP1
  rw [hw2, hg] at hmk
  clear HP hw2 hg
  have HP := HP1
  clear HP1
  go_wp2_with (first | ((with_reducible refine gate_dst (N := 10) rfl ?_); refine ev_run rfl hmk ?_))
  clear hmk
  go_loopg [3] 1000 (fun kq v3 w' => ∃ (j : Nat) (x : Int), v3 = .int .i64 x ∧ Aside0 (x = (j : Int)) ∧ Aside0 (kq + j = 1000) ∧ Aside0 (Hp w w' [.blk g (.cells (u8s (partA j)).toArray 5 (0, 0)), .blk gd (.cells (dc true H0 (List.replicate 64 0) 0).toArray 52 (0, 0))]))
  case atStart => exact ⟨0, 0, rfl, ⟨rfl⟩, ⟨rfl⟩, HP⟩
  clear HP
  obtain ⟨j, x, rfl, HX, HK, HP⟩ := hrel
  have hx := HX.out
  have hk := HK.out
  by_cases c1 : j < 1000
  · have d1 : decide (x < 1000) = true := decide_eq_true (by omega)
    have ex := i64k (x := x + 1) rfl (by omega)
    have p0 : 0 ≤ x := by omega
    have q0 : x < 1000 := by omega
    have hcw := cellL (HP.out.blk 0 rfl) x p0 (by rw [partA_len _ (by omega)]; omega)
    have hfw := frozC (HP.out.blk 0 rfl) x.toNat
    have HC1 := Aside0.mk c1
    clear hx hk c1
    go_wp2_with fail
    have hyn : x.toNat = j := by have := HX.out; omega
    have HPn := Aside0.mk (HP.out.setCell 0 rfl j (.int .u8 97))
    rw [show (u8s (partA j)).toArray.setIfInBounds j (.int .u8 97) = (u8s (partA (j + 1))).toArray from by rw [← partA_step j HC1.out]; exact setL (k := .u8) _ _ _, ← hyn] at HPn
    go_roundg (gk - 1)
    case measure => have := HK.out; have := HC1.out; omega
    case rel => exact ⟨j + 1, x + 1, by simp, ⟨by have := HX.out; omega⟩, ⟨by have := HK.out; have := HC1.out; omega⟩, by rw [hyn] at HPn ⊢; exact HPn⟩
  · have d1 : decide (x < 1000) = false := decide_eq_false (by omega)
    obtain rfl : j = 1000 := by omega
    clear hx hk c1
    obtain ⟨B, hB⟩ : ∃ B, partA 1000 = B := ⟨_, rfl⟩
    have HBL := Aside0.mk (show B.length = 1000 by rw [← hB, partA_len _ (by omega)])
    have HB := Aside0.mk (show B = List.replicate 1000 97 by rw [← hB]; rfl)
    rw [hB] at HP
    clear hB HX HK
    go_wp2_with fail
    go_loopg [4] 1000 (fun kq v4 w' => ∃ (j : Nat) (x : Int) (M : List Int) (v : V8) (p : List Int), v4 = .int .i64 x ∧ Aside0 (x = (j : Int)) ∧ Aside0 (kq + j = 1000) ∧ Aside0 (M = List.replicate (1000 * j) 97) ∧ Aside0 (DigI v p M) ∧ Aside0 (Hp w w' [.blk g (.cells (u8s B).toArray 5 (0, 0)), .blk gd (.cells (dc true v p (M.length : Int)).toArray 52 (0, 0))]))
    case atStart => exact ⟨0, 0, [], H0, List.replicate 64 0, rfl, ⟨rfl⟩, ⟨rfl⟩, ⟨rfl⟩, ⟨dig0⟩, HP⟩
    clear HP
    obtain ⟨j, x, M, v, p, rfl, HX, HK, HM, HD, HP⟩ := hrel
    have hx := HX.out
    have hk := HK.out
    have HML := Aside0.mk (show M.length = 1000 * j by rw [HM.out, List.length_replicate])
    by_cases c1 : j < 1000
    · have d1 : decide (x < 1000) = true := decide_eq_true (by omega)
      have ex := i64k (x := x + 1) rfl (by omega)
      have HC1 := Aside0.mk c1
      have CW := Aside0.mk (c_write HP.out 1 gd v p M B rfl HD.out (some ⟨g, 0, none⟩) 1000 (by rw [HBL.out]; exact Nat.le_refl _) (by rw [HML.out, HBL.out]; omega) (fun w' v p n hp => C_blkM (hp.blk 0 rfl) (by rw [HBL.out]; decide)))
      rw [HBL.out] at CW
      clear hx hk c1
      go_wp2_with fail
      refine CW.out.mono ?_; rintro e w3 ⟨rfl, v2, p2, hd, hp⟩; have HPn := Aside0.mk (show Hp w w3 [.blk g (.cells (u8s B).toArray 5 (0, 0)), .blk gd (.cells (dc true v2 p2 ((M ++ B).length : Int)).toArray 52 (0, 0))] from hp); have HD2 := Aside0.mk hd; clear HP hp hd CW; have HP := HPn; clear HPn
      go_wp2_with fail
      go_roundg (gk - 1)
      case measure => have := HK.out; have := HC1.out; omega
      case rel => exact ⟨j + 1, x + 1, M ++ B, v2, p2, by simp, ⟨by have := HX.out; omega⟩, ⟨by have := HK.out; have := HC1.out; omega⟩, ⟨by rw [HM.out, HB.out, List.replicate_append_replicate]; congr 1⟩, HD2, HP⟩
    · have d1 : decide (x < 1000) = false := decide_eq_false (by omega)
      obtain rfl : j = 1000 := by omega
      have CS := Aside0.mk (fun w (hg : w.heap[gd]? = _) => c_sum gd v p M w hg HD.out (by rw [HML.out]; decide))
      rw [show sha M = [205, 199, 110, 92, 153, 20, 251, 146, 129, 161, 199, 226, 132, 215, 62, 103, 241, 128, 154, 72, 164, 151, 32, 14, 4, 109, 57, 204, 199, 17, 44, 208] from by rw [HM.out]; exact sha_million] at CS
      have CT := Aside0.mk (fun w => c_text [205, 199, 110, 92, 153, 20, 251, 146, 129, 161, 199, 226, 132, 215, 62, 103, 241, 128, 154, 72, 164, 151, 32, 14, 4, 109, 57, 204, 199, 17, 44, 208] rfl (by decide) w)
      rw [ev_m] at CT
      obtain ⟨sm, hsm⟩ : ∃ z, ([205, 199, 110, 92, 153, 20, 251, 146, 129, 161, 199, 226, 132, 215, 62, 103, 241, 128, 154, 72, 164, 151, 32, 14, 4, 109, 57, 204, 199, 17, 44, 208] : List Int) = z := ⟨_, rfl⟩
      rw [hsm] at CS CT
      have HL := HML.out
      rw [HL] at HP CS
      clear hx hk c1 hsm HL
      go_wp2_with fail
      (with_reducible refine (c_named _ _ (by decide) ev_long _).mono ?_); rintro e w3 ⟨rfl, hb⟩; have HPn := Aside0.mk (HP.out.call hb); clear HP; have HP := HPn; clear HPn; clear hb
      go_wp2_with fail
      (with_reducible refine (CS.out _ (HP.out.blk 1 rfl)).mono ?_); rintro e w4 ⟨rfl, hb⟩; have HPn := Aside0.mk (HP.out.call hb); clear HP; have HP := HPn; clear HPn; clear hb
      go_wp2_with fail
      (with_reducible refine (CT.out _).mono ?_); rintro e w5 ⟨rfl, hb⟩; have HPn := Aside0.mk (HP.out.call hb); clear HP; have HP := HPn; clear HPn; clear hb
      go_wp2_with fail
      (with_reducible refine (c_len gd v p _ HD.out.len _ (HP.out.blk 1 rfl)).mono ?_); rintro e w_ ⟨rfl, rfl⟩
      go_wp2_with fail
      (with_reducible refine (c_awake _).mono ?_); rintro e w6 ⟨rfl, hb⟩; have HPn := Aside0.mk (HP.out.call hb); clear HP; have HP := HPn; clear HPn; clear hb
      go_wp2_with fail
      (with_reducible refine (N63.out _).mono ?_); rintro e w7 ⟨rfl, hb⟩; have HPn := Aside0.mk (HP.out.call hb); clear HP; have HP := HPn; clear HPn; clear hb
      go_wp2_with fail
      (with_reducible refine (Q63.out _).mono ?_); rintro e w8 ⟨rfl, hb⟩; have HPn := Aside0.mk (HP.out.call hb); clear HP; have HP := HPn; clear HPn; clear hb
      go_wp2_with fail
      (with_reducible refine (N65.out _).mono ?_); rintro e w9 ⟨rfl, hb⟩; have HPn := Aside0.mk (HP.out.call hb); clear HP; have HP := HPn; clear HPn; clear hb
      go_wp2_with fail
      (with_reducible refine (Q65.out _).mono ?_); rintro e w10 ⟨rfl, hb⟩; have HPn := Aside0.mk (HP.out.call hb); clear HP; have HP := HPn; clear HPn; clear hb
      go_wp2_with fail
      (with_reducible refine (N64.out _).mono ?_); rintro e w11 ⟨rfl, hb⟩; have HPn := Aside0.mk (HP.out.call hb); clear HP; have HP := HPn; clear HPn; clear hb
      go_wp2_with fail
      (with_reducible refine (Q64.out _).mono ?_); rintro e w12 ⟨rfl, hb⟩; have HPn := Aside0.mk (HP.out.call hb); clear HP; have HP := HPn; clear HPn; clear hb
      go_wp2_with fail
      go_ret
      exact ⟨rfl, HP.out.below⟩
end Go.Proofs.Ytpnjbogpooejhaa.H
