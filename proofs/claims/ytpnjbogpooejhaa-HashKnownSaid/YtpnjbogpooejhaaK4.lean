import Derived.Test.YtpnjbogpooejhaaK3
import Derived.Test.YtpnjbogpooejhaaXHgL
import Derived.Test.YtpnjbogpooejhaaXa
namespace Go.Proofs.Ytpnjbogpooejhaa.H
open Go.RowKit Go.Proofs.Ytpnjbogpooejhaa.XH Go.Proofs.YtpnjbogpooejhaaW.PrintWords Go.Proofs.YtpnjbogpooejhaaW.PrintLast Go.Proofs.YtpnjbogpooejhaaW.PrintMore Go.Proofs.YtpnjbogpooejhaaXe Go.Proofs.YtpnjbogpooejhaaXs
set_option linter.unusedVariables false
set_option linter.unusedSimpArgs false
attribute [local go_sem ↓] Go.wp_at_zero Go.wp_at_succ
attribute [local go_sem] valUpon
attribute [local go_sem ↓ high] bn23
theorem BN23.z (w : World) : (BN23 #[]).run Try.prog w = .ok (.agg (u8s z32).toArray) w := BN23.run w
attribute [local go_sem high] BN23.z
/-! '==' of byte arrays -/
theorem eqi_ints {P : Program} {w : World} {d : Nat} {e : TypeId} {k : IntKind} (hu : P.underlying e = some (.int k)) (hs : (P.info? e).map (·.size) = some 1) (x y : List Int) (hxy : x.length = y.length) : ∀ (n o : Nat), o + n ≤ x.length →
    (Op.eqItems (d + 1) e 1 (x.map (Value.int k)).toArray (y.map (Value.int k)).toArray (List.range' o n)).run P w = .ok (decide ((x.drop o).take n = (y.drop o).take n)) w
  | 0, o, _ => by simp [Op.eqItems]
  | n + 1, o, h => by
    obtain ⟨i, hi, hsi⟩ := Option.map_eq_some_iff.1 hs
    have h1 : o < x.length := by omega
    have h2 : o < y.length := by omega
    rw [List.range'_succ]
    have ha : (part e (x.map (Value.int k)).toArray (o * 1)).run P w = .ok (.int k x[o]) w := by simp [part, isAgg, run_underlying hu, h1]
    have hb : (part e (y.map (Value.int k)).toArray (o * 1)).run P w = .ok (.int k y[o]) w := by simp [part, isAgg, run_underlying hu, h2]
    have he : (Op.equalIn (d + 1) e (.int k x[o]) (.int k y[o])).run P w = .ok (x[o] == y[o]) w := by simp [Op.equalIn, run_underlying hu]
    rw [Go.Proofs.YtpnjbogpooejhaaXa.eqi_cons ha hb he (eqi_ints hu hs x y hxy n (o + 1) (by omega))]
    congr 1
    rw [List.drop_eq_getElem_cons h1, List.drop_eq_getElem_cons h2, List.take_succ_cons, List.take_succ_cons, Bool.eq_iff_iff]
    simp only [Bool.and_eq_true, beq_iff_eq, decide_eq_true_eq, List.cons.injEq]
theorem eq_id (d : Nat) (w : World) (x y : List Int) (hx : x.length = 32) (hy : y.length = 32) : (Op.equalIn (d + 2) 23 (.agg (u8s x).toArray) (.agg (u8s y).toArray)).run Try.prog w = .ok (decide (x = y)) w := by
  refine Go.Proofs.YtpnjbogpooejhaaXa.eqB_of Try.underlying23 (n := 32) (e := 5) (c := 1) (by kernel_rfl) (by kernel_rfl) (is := List.range' 0 32) (by decide) ?_
  have h := eqi_ints (P := Try.prog) (w := w) (d := d) (k := .u8) Try.underlying5 (by kernel_rfl) x y (by omega) 32 0 (by omega)
  rw [List.drop_zero, List.drop_zero, List.take_of_length_le (by omega), List.take_of_length_le (by omega)] at h
  exact h
theorem z32_len : z32.length = 32 := by simp [z32]
theorem eq_zz (d : Nat) (w : World) : (Op.equalIn (d + 2) 23 (.agg (u8s z32).toArray) (.agg (u8s z32).toArray)).run Try.prog w = .ok true w := by rw [eq_id d w z32 z32 z32_len z32_len]; simp
attribute [local go_sem high] eq_zz
set_option maxHeartbeats 8000000 in
set_option maxRecDepth 100000 in
theorem c_rtext (id : List Int) (hl : id.length = 32) (hb : ∀ x ∈ id, 0 ≤ x ∧ x < 256) (w : World) : Calls Try.prog 14 #[.agg (u8s id).toArray] w fun e w' => e = .returned (.string (strOfNums (txI id))) ∧ Below w.heap.size w w' := by
  have HL := Aside0.mk hl
  have HBY := Aside0.mk hb
  have HP := Aside0.mk (Hp.start w)
  clear hl hb
  go_enter Try.func14, Try.ntmps14
  go_wp2_with (first | ((with_reducible refine gate_dst (N := 1) rfl ?_); refine ev_box rfl 23 (.tmp 0) rfl (u8s id).toArray rfl ?_; intro g_b wn1 hge hg hb; have HPn := Aside0.mk (HP.out.newB hb hg hge); clear HP; have HP := HPn; clear HPn; clear hge hg hb))
  go_loopg [3, 4, 5] 64 (fun kq v3 v4 v5 w' => ∃ (i : Nat) (x : Int) (s3 : ByteArray), v3 = .string s3 ∧ v4 = .int .i64 x ∧ Aside0 (s3 = strOfNums ((txI id).take i)) ∧ Aside0 (x = (i : Int)) ∧ Aside0 (kq + i = 64) ∧ Aside0 (Hp w w' [.blk g_b (.cells (u8s id).toArray 23 (0, 0))]))
  case atStart => exact ⟨0, 0, _, rfl, rfl, ⟨rfl⟩, ⟨rfl⟩, ⟨rfl⟩, HP⟩
  clear HP
  obtain ⟨i, x, s3, rfl, rfl, HS3, HX, HK, HP⟩ := hrel
  have hx := HX.out
  by_cases c1 : i < 64
  · have d1 : decide (x < 64) = true := decide_eq_true (by omega)
    have ex := i64k (x := x + 1) rfl (by omega)
    obtain ⟨y, hy⟩ : ∃ y, x / 2 = y := ⟨_, rfl⟩
    have ey : Int.tdiv x 2 = y := by rw [Int.tdiv_eq_ediv_of_nonneg (by omega)]; exact hy
    have y0 : 0 ≤ y := by omega
    have y1 : y < 32 := by omega
    obtain ⟨z, hz⟩ : ∃ z, x % 2 = z := ⟨_, rfl⟩
    have ez : Int.tmod x 2 = z := by rw [Int.tmod_eq_emod_of_nonneg (by omega)]; exact hz
    obtain ⟨c, hc⟩ : ∃ c, rd id y = c := ⟨_, rfl⟩
    have hcb : 0 ≤ c ∧ c < 256 := by rw [← hc]; exact rd_byte HBY.out y
    have hci := cellL (HP.out.blk 0 rfl) y y0 (by rw [HL.out]; exact y1)
    rw [hc] at hci
    have ec : IntKind.i64.wrap c = c := i64k rfl (by omega)
    obtain ⟨m, hm⟩ : ∃ m, nibI id i = m := ⟨_, rfl⟩
    have hmv : (z = 0 → c / 16 = m) ∧ (z ≠ 0 → c % 16 = m) := by
      unfold nibI at hm
      rw [show ((i / 2 : Nat) : Int) = y by omega, hc] at hm
      constructor
      · intro h; rw [if_pos (by omega)] at hm; exact hm
      · intro h; rw [if_neg (by omega)] at hm; exact hm
    have hd : (strOfNums [dgI m]) = (⟨#[48, 49, 50, 51, 52, 53, 54, 55, 56, 57, 97, 98, 99, 100, 101, 102]⟩ : ByteArray).extract m.toNat (m + 1).toNat := by
      have h16 : ∀ k : Fin 16, (strOfNums [dgI (k.val : Int)]) = (⟨#[48, 49, 50, 51, 52, 53, 54, 55, 56, 57, 97, 98, 99, 100, 101, 102]⟩ : ByteArray).extract (k.val : Int).toNat ((k.val : Int) + 1).toNat := by decide +kernel
      have := h16 ⟨m.toNat, by omega⟩
      rw [show (((⟨m.toNat, by omega⟩ : Fin 16).val : Nat) : Int) = m by show ((m.toNat : Nat) : Int) = m; omega] at this
      exact this
    have HM := Aside0.mk hm
    have hmr : 0 ≤ m ∧ m < 16 := by
      by_cases c2 : z = 0
      · have := hmv.1 c2; omega
      · have := hmv.2 c2; omega
    obtain ⟨y2, hy2⟩ : ∃ y2, m + 1 = y2 := ⟨_, rfl⟩
    have e18 := i64k hy2 (by omega)
    have hsl : ∀ w, (Instr.slice 9 (.string ⟨#[48, 49, 50, 51, 52, 53, 54, 55, 56, 57, 97, 98, 99, 100, 101, 102]⟩) (some (.int .i64 m)) (some (.int .i64 y2)) none).run Try.prog w = .ok (.string (strOfNums [dgI m])) w := fun w => by
      rw [hd, hy2]
      exact run_slice_string _ _ _ _ _ _ _ Try.underlying9 (by omega) (by omega) (by show y2 ≤ 16; omega)
    have HE := Aside0.mk (show strOfNums ((txI id).take (i + 1)) = s3 ++ strOfNums [dgI m] by
      rw [txI_next id i c1, hm, HS3.out]
      apply ByteArray.ext
      simp [strOfNums, ByteArray.data_append])
    have hadd : ∀ w, (Op.stringOp .add s3 (strOfNums [dgI m])).run Try.prog w = .ok (.string (s3 ++ strOfNums [dgI m])) w := fun w => by
      refine run_string_add_sum _ _ _ ?_
      rw [HS3.out, strOfNums_size, strOfNums_size, List.length_take, txI_len]
      simp; omega
    have HC1 := Aside0.mk c1
    have e17 : Int.tmod m 16 = m := by rw [Int.tmod_eq_emod_of_nonneg (by omega)]; omega
    have m0 : 0 ≤ m := hmr.1
    have m1 : m < 16 := hmr.2
    by_cases c2 : z = 0
    · have d2 : (z == 0) = true := beq_iff_eq.2 c2
      have hm2 := hmv.1 c2
      have e16 : Int.tdiv c 16 = m := by rw [Int.tdiv_eq_ediv_of_nonneg (by omega)]; exact hm2
      clear hmv hm hc hz hy hcb hx c1 c2 hm2 hd hmr hy2
      go_wp2_with fail
      go_roundg (gk - 1)
      case measure => have := HK.out; have := HC1.out; omega
      case rel => exact ⟨i + 1, x + 1, _, rfl, by simp, ⟨HE.out.symm⟩, ⟨by have := HX.out; omega⟩, ⟨by have := HK.out; have := HC1.out; omega⟩, HP⟩
    · have d2 : (z == 0) = false := beq_eq_false_iff_ne.2 c2
      have hm2 := hmv.2 c2
      have e16 : Int.tmod c 16 = m := by rw [Int.tmod_eq_emod_of_nonneg (by omega)]; exact hm2
      clear hmv hm hc hz hy hcb hx c1 c2 hm2 hd hmr hy2
      go_wp2_with fail
      go_roundg (gk - 1)
      case measure => have := HK.out; have := HC1.out; omega
      case rel => exact ⟨i + 1, x + 1, _, rfl, by simp, ⟨HE.out.symm⟩, ⟨by have := HX.out; omega⟩, ⟨by have := HK.out; have := HC1.out; omega⟩, HP⟩
  · have d1 : decide (x < 64) = false := decide_eq_false (by omega)
    obtain rfl : i = 64 := by have := HK.out; omega
    obtain rfl : s3 = strOfNums (txI id) := by rw [HS3.out, List.take_of_length_le (by rw [txI_len]; omega)]
    clear hx c1
    go_wp2
    go_ret
    exact ⟨rfl, HP.out.below⟩
set_option maxHeartbeats 8000000 in
set_option maxRecDepth 100000 in
/-- where a text stops being a name -/
theorem c_stops (s : ByteArray) (hs : s.size ≤ 100000000000000) (a : Int) (h : parS s = ⟨z32, 4, a⟩) (w : World) : Calls Try.prog 15 #[.string s, .int .i64 a] w fun e w' => e = .returned (.bool true) ∧ Below w.heap.size w w' := by
  have C := Aside0.mk (fun w => c_parse s hs w)
  rw [h] at C
  have HP := Aside0.mk (Hp.start w)
  clear h hs
  go_enter Try.func15, Try.ntmps15
  go_wp2_with fail
  (with_reducible refine (C.out _).mono ?_); rintro e wn1 ⟨rfl, hb⟩; have HPn := Aside0.mk (HP.out.call hb); clear HP; have HP := HPn; clear HPn hb
  go_wp2_with (first | ((with_reducible refine gate_dst (N := 5) rfl ?_); refine ev_alloc rfl 23 rfl (.agg (u8s z32).toArray) (by kernel_rfl) ?_; intro g_o wn2 hge hg hb; have HPn := Aside0.mk (HP.out.newB hb hg hge); clear HP; have HP := HPn; clear HPn; clear hge hg hb) | ((with_reducible refine gate_dst (N := 6) rfl ?_); refine ev_alloc rfl 27 rfl (.agg #[.int .i64 0, .int .i64 0]) (by kernel_rfl) ?_; intro g_f wn3 hge hg hb; have HPn := Aside0.mk (HP.out.newB hb hg hge); clear HP; have HP := HPn; clear HPn; clear hge hg hb) | ((with_reducible refine gate_store (t := 23) (p := 5) rfl ?_); refine ev_store rfl 23 (.tmp 5) (.tmp 10) rfl rfl _ rfl (cells := (u8s z32).toArray) rfl (HP.out.blk 1 rfl) (by kernel_rfl) (by rfl) (one_u8 _) ?_; intro wn4 hg hgr; have HPn := Aside0.mk (HP.out.setB 1 rfl hgr hg); clear HP; have HP := HPn; clear HPn; clear hg hgr) | ((with_reducible refine gate_store (t := 27) (p := 6) rfl ?_); refine ev_store rfl 27 (.tmp 6) (.tmp 11) rfl rfl _ rfl (cells := #[.int .i64 4, .int .i64 a]) rfl (HP.out.blk 0 rfl) (by kernel_rfl) (by rfl) (by simp [Value.oneCell']) ?_; intro wn5 hg hgr; have HPn := Aside0.mk (HP.out.setB 0 rfl hgr hg); clear HP; have HP := HPn; clear HPn; clear hg hgr) | ((with_reducible refine gate_dst (N := 12) rfl ?_); refine ev_load rfl 23 (.tmp 5) rfl g_o rfl (HP.out.blk 1 rfl) Try.underlying23 rfl (by kernel_rfl) ?_) | ((with_reducible refine gate_dst (N := 16) rfl ?_); refine ev_load rfl 27 (.tmp 6) rfl g_f rfl (HP.out.blk 0 rfl) Try.underlying27 rfl (by kernel_rfl) ?_))
  go_ret
  exact ⟨rfl, HP.out.below⟩
theorem sha_byte (M : List Int) : ∀ x ∈ sha M, 0 ≤ x ∧ x < 256 := by
  intro x hx
  unfold sha outI at hx
  rcases List.mem_append.1 hx with h | h
  · obtain ⟨j, _, rfl⟩ := List.mem_map.1 h
    exact ⟨Int.emod_nonneg _ (by decide), Int.emod_lt_of_pos _ (by decide)⟩
  · rw [List.mem_replicate] at h; omega
/-- a text's bytes -/
def bysI (s : ByteArray) : List Int := s.data.toList.map fun x => (x.toNat : Int)
theorem bysI_len (s : ByteArray) : (bysI s).length = s.size := by unfold bysI; rw [List.length_map, Array.length_toList]; rfl
theorem bytes_C (w : World) (e : TypeId) (s : ByteArray) (h : s.size ≤ 9223372036854775807) : Kd.C (Kd.int .u8) (Lib.bytesWorld w e s) (some ⟨w.heap.size, 0, none⟩) (bysI s).length (bysI s) := by
  refine C_ints (by rw [bysI_len]; exact h) fun j x hj => ?_
  have hlt : j < s.size := by rw [← bysI_len]; exact (List.getElem?_eq_some_iff.1 hj).1
  rw [add_at, Nat.zero_add, Lib.bytesWorld_cell w e s j hlt]
  have hd : j < s.data.toList.length := by rw [Array.length_toList]; exact hlt
  simp only [bysI, List.getElem?_map, List.getElem?_eq_getElem hd, Option.map_some, Option.some.injEq] at hj
  rw [← hj, List.getD_eq_getElem?_getD, List.getElem?_eq_getElem hd]
  rfl
set_option maxHeartbeats 8000000 in
set_option maxRecDepth 100000 in
/-- a text whose ID has this name -/
theorem c_named (s want : ByteArray) (hs : s.size ≤ 100000000000) (h : strOfNums (txI (sha (bysI s))) = want) (w : World) : Calls Try.prog 26 #[.string s, .string want] w fun e w' => e = .returned (.bool true) ∧ Below w.heap.size w w' := by
  have hcv := Lib.run_convert_string_bytes (P := Try.prog) w 9 32 5 s Try.underlying9 Try.underlying32 Try.underlying5
  have HP := Aside0.mk (Hp.start w)
  have HS := Aside0.mk hs
  have C := Aside0.mk (fun w => c_text (sha (bysI s)) (sha_len _) (sha_byte _) w)
  rw [h] at C
  clear h hs
  go_enter Try.func26, Try.ntmps26
  go_wp2_with (first | ((with_reducible refine gate_dst (N := 6) rfl ?_); refine ev_run rfl hcv ?_))
  have HPn := Aside0.mk (HP.out.call (bytes_below (Below.refl _ _) (Nat.le_refl _) 5 s))
  clear HP hcv
  have HP := HPn
  clear HPn
  have HC := Aside0.mk (c_hsum _ (grownCap w s.size 0 5) (bysI s) _ (bytes_C w 5 s (by have := HS.out; omega)) (by rw [bysI_len]; exact grownCap_ge w s.size 0 5) (by rw [bysI_len]; have := HS.out; omega))
  rw [bysI_len] at HC
  refine HC.out.mono ?_
  rintro e wn1 ⟨rfl, hb⟩
  have HPn := Aside0.mk (HP.out.call hb)
  clear HP HC hb
  have HP := HPn
  clear HPn
  go_wp2_with fail
  (with_reducible refine (C.out _).mono ?_); rintro e wn2 ⟨rfl, hb⟩; have HPn := Aside0.mk (HP.out.call hb); clear HP; have HP := HPn; clear HPn hb
  go_wp2_with fail
  go_ret
  exact ⟨rfl, HP.out.below⟩
end Go.Proofs.Ytpnjbogpooejhaa.H
