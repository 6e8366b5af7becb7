import Derived.Test.YtncmbkjjoamfjaaH8
namespace Go.Proofs.Ytncmbkjjoamfjaa.H
open Go.RowKit Go.Proofs.Ytncmbkjjoamfjaa.XH Go.Proofs.YtncmbkjjoamfjaaW.PrintWords Go.Proofs.YtncmbkjjoamfjaaW.PrintLast Go.Proofs.YtncmbkjjoamfjaaW.PrintMore Go.Proofs.YtncmbkjjoamfjaaXe Go.Proofs.YtncmbkjjoamfjaaXs
set_option linter.unusedVariables false
set_option linter.unusedSimpArgs false
attribute [local go_sem ↓] Go.wp_at_zero Go.wp_at_succ
attribute [local go_sem] valUpon
attribute [local go_sem ↓ high] bn67 bn69 bn29
attribute [local go_sem high] BN67.run BN69.run BN29.run
theorem rest_take (sz : Nat) (lg : Int) (hs : 1 ≤ sz) (hs2 : sz ≤ 64) : ∀ i, i ≤ 8 → (restI sz lg i).take (sz + i) = (128 :: List.replicate (sz - 1) 0) ++ (List.range i).map (fun j => lg / 2 ^ (56 - 8 * j) % 256)
  | 0, _ => by
    obtain ⟨m, rfl⟩ : ∃ m, sz = m + 1 := ⟨sz - 1, by omega⟩
    rw [restI, Nat.add_zero, List.take_succ_cons, List.take_replicate, Nat.min_eq_left (by omega)]
    simp
  | i + 1, h => by
    have ih := rest_take sz lg hs hs2 i (by omega)
    have hl := restI_len sz lg i
    rw [restI, show sz + (i + 1) = (sz + i) + 1 by omega, List.take_succ_eq_append_getElem (by rw [List.length_set]; omega), List.getElem_set_self, List.take_set_of_le (Nat.le_refl _), ih, List.range_succ, List.map_append, List.append_assoc]
    rfl
theorem message_f (l : List Int) (hl : l.length ≤ 100000000000000) : retconref02_message.f l = some (l ++ padI l.length) := by
  have hpad : padI l.length = (128 :: List.replicate (szI l.length - 1) 0) ++ (List.range 8).map (fun j => ((l.length : Int) * 8) / 2 ^ (56 - 8 * j) % 256) := rest_take _ _ (by unfold szI; omega) (by unfold szI; omega) 8 (Nat.le_refl _)
  have h1 : IntKind.u64.wrap (l.length : Int) = (l.length : Int) := by simp [IntKind.wrap, IntKind.bits, IntKind.signed]; omega
  have h2 : IntKind.u64.wrap ((l.length : Int) * 8) = (l.length : Int) * 8 := by simp [IntKind.wrap, IntKind.bits, IntKind.signed]; omega
  have h3 : ((119 - ((l.length : Int) % 64)) % 64 : Int).toNat = szI l.length - 1 := by unfold szI; omega
  have h4 : (0 : Int) ≤ ((119 - ((l.length : Int) % 64)) % 64) := by omega
  have h5 : szI l.length ≤ 64 := by unfold szI; omega
  unfold retconref02_message.f
  simp only [h1, h2, h3, Option.bind_some, List.nil_append, List.length_nil, List.length_append, List.length_cons, List.length_replicate]
  rw [if_pos (by omega), if_pos (by omega), if_pos h4, if_pos (by omega), if_pos (by omega), hpad]
  congr 1
  simp [List.range_succ]
theorem c_message (A : Option Addr) (c : Nat) (b : List Int) (w : World) (hr : Kd.C (Kd.int .u8) w A b.length b) (hc : b.length ≤ c) (hl : b.length ≤ 100000000000000) : Calls Try.prog 36 #[.slice A b.length c] w fun e w' => ∃ v0_ : Value, e = .returned (v0_) ∧ Kd.R (Kd.int .u8) 5 w' w.heap.size (fun _ => True) v0_ (b ++ padI b.length) ∧ Below w.heap.size w w' := retconref02_message.calls A c b _ w hr hc (message_f b hl)
theorem c_consts (w : World) : Calls Try.prog 37 #[] w fun e w' => ∃ v0_ : Value, e = .returned (v0_) ∧ Kd.R (Kd.int .u32) 56 w' w.heap.size (fun _ => True) v0_ KW ∧ Below w.heap.size w w' := retconref02_constants.calls _ w rfl
theorem pad_len (b : List Int) : (b ++ padI b.length).length % 64 = 0 := by
  unfold padI
  rw [List.length_append, List.length_take, restI_len]
  unfold szI
  omega
theorem pad_bytes {b : List Int} (h : Bytes b) : Bytes (b ++ padI b.length) := by
  intro x hx
  rcases List.mem_append.1 hx with hx | hx
  · exact h x hx
  · rw [show padI b.length = (128 :: List.replicate (szI b.length - 1) 0) ++ (List.range 8).map (fun j => ((b.length : Int) * 8) / 2 ^ (56 - 8 * j) % 256) from rest_take _ _ (by unfold szI; omega) (by unfold szI; omega) 8 (Nat.le_refl _)] at hx
    rcases List.mem_append.1 hx with hx | hx
    · rcases List.mem_cons.1 hx with rfl | hx
      · decide
      · rw [List.mem_replicate] at hx; omega
    · obtain ⟨j, _, rfl⟩ := List.mem_map.1 hx
      exact ⟨Int.emod_nonneg _ (by decide), Int.emod_lt_of_pos _ (by decide)⟩
theorem rd_set_eq {l : List Int} {i : Nat} (x : Int) (h : i < l.length) : rd (l.set i x) (i : Int) = x := by simp [Go.Proofs.YtncmbkjjoamfjaaW.PrintWords.rd, h]
theorem rd_set_ne {l : List Int} {i q : Nat} (x : Int) (h : i ≠ q) : rd (l.set i x) (q : Int) = rd l q := by simp [Go.Proofs.YtncmbkjjoamfjaaW.PrintWords.rd, h]
theorem ext_rd {l m : List Int} (h : l.length = m.length) (hq : ∀ q : Nat, q < l.length → rd l q = rd m q) : l = m := by
  refine List.ext_getElem h fun q h1 h2 => ?_
  have := hq q h1
  simpa [Go.Proofs.YtncmbkjjoamfjaaW.PrintWords.rd, h1, h2] using this
theorem rd_outI (ws : List Int) (q : Nat) (h : q < 32) : rd (outI ws 32) q = byteI ws q := by simp [Go.Proofs.YtncmbkjjoamfjaaW.PrintWords.rd, outI, h]
theorem add8_u32 (s v : V8) (q : Nat) : 0 ≤ rd (add8 s v) q ∧ rd (add8 s v) q < 4294967296 := by
  have h : ∀ x ∈ add8 s v, 0 ≤ x ∧ x < 4294967296 := by
    intro x hx
    simp only [add8, List.mem_cons, List.not_mem_nil, or_false] at hx
    rcases hx with rfl | rfl | rfl | rfl | rfl | rfl | rfl | rfl <;> exact ⟨Int.emod_nonneg _ (by decide), Int.emod_lt_of_pos _ (by decide)⟩
  unfold Go.Proofs.YtncmbkjjoamfjaaW.PrintWords.rd
  by_cases hi : (q : Int).toNat < (add8 s v).length
  · rw [List.getD_eq_getElem?_getD, List.getElem?_eq_getElem hi]; exact h _ (List.getElem_mem hi)
  · rw [List.getD_eq_getElem?_getD, List.getElem?_eq_none (by omega)]; decide
theorem H0_u32 (q : Nat) : 0 ≤ rd H0.l q ∧ rd H0.l q < 4294967296 := by
  unfold Go.Proofs.YtncmbkjjoamfjaaW.PrintWords.rd
  by_cases hi : (q : Int).toNat < H0.l.length
  · have h : ∀ x ∈ H0.l, 0 ≤ x ∧ x < 4294967296 := by decide
    rw [List.getD_eq_getElem?_getD, List.getElem?_eq_getElem hi]; exact h _ (List.getElem_mem hi)
  · rw [List.getD_eq_getElem?_getD, List.getElem?_eq_none (by omega)]; decide
theorem foldB_u32' : ∀ (n : Nat) (v : V8) (M : List Int), (∀ q : Nat, 0 ≤ rd v.l q ∧ rd v.l q < 4294967296) → ∀ q : Nat, 0 ≤ rd (foldB n v M).l q ∧ rd (foldB n v M).l q < 4294967296
  | 0, v, M, h, q => h q
  | n + 1, v, M, h, q => foldB_u32' n _ _ (fun q => by rw [behV_l]; exact add8_u32 v (rndsI v KW (w2I (M.take 64) 48) 64) q) q
theorem foldB_u32 (n : Nat) (M : List Int) : ∀ q : Nat, 0 ≤ rd (foldB n H0 M).l q ∧ rd (foldB n H0 M).l q < 4294967296 := foldB_u32' n H0 M H0_u32
set_option maxHeartbeats 8000000 in
set_option maxRecDepth 100000 in
theorem c_rsum (A : Option Addr) (c : Nat) (b : List Int) (w : World) (hr : Kd.C (Kd.int .u8) w A b.length b) (hc : b.length ≤ c) (hm : b.length ≤ 100000000000000) (hB : Bytes b) :
    Calls Try.prog 29 #[.slice A b.length c] w fun e w' => e = .returned (.agg (u8s (sha b)).toArray) ∧ Below w.heap.size w w' := by
  have HR := Aside0.mk hr
  have HC := Aside0.mk hc
  have HLL := Aside0.mk hm
  have HBY := Aside0.mk hB
  have HP := Aside0.mk (Hp.start w)
  clear hr hc hm hB
  go_enter Try.func29, Try.ntmps29
  go_wp2_with (first | ((with_reducible refine gate_dst (N := 2) rfl ?_); refine ev_alloc rfl 29 rfl (.agg (u8s (List.replicate 32 0)).toArray) (by kernel_rfl) ?_; intro g_o wn1 hge hg hb; have HPn := Aside0.mk (HP.out.newB hb hg hge); clear HP; have HP := HPn; clear HPn; clear hge hg hb) | ((with_reducible refine gate_dst (N := 3) rfl ?_); refine ev_alloc rfl 58 rfl (.agg (u32s (List.replicate 8 0)).toArray) (by kernel_rfl) ?_; intro g_s wn2 hge hg hb; have HPn := Aside0.mk (HP.out.newB hb hg hge); clear HP; have HP := HPn; clear HPn; clear hge hg hb) | ((with_reducible refine gate_store (t := 58) (p := 3) rfl ?_); refine ev_store rfl 58 (.tmp 3) (.tmp 10) rfl rfl _ rfl (cells := (u32s H0.l).toArray) rfl (HP.out.blk 0 rfl) (by kernel_rfl) (by rfl) (one_u32 _) ?_; intro wn3 hg hgr; have HPn := Aside0.mk (HP.out.setB 0 rfl hgr hg); clear HP; have HP := HPn; clear HPn; clear hg hgr))
  (with_reducible refine (c_message A c b _ (Kd.C_below HR.out HP.out.below) HC.out HLL.out).mono ?_); rintro e wn4 ⟨v, rfl, ho, hb⟩; have HPn := Aside0.mk (HP.out.newR hb ho); clear HP; have HP := HPn; clear HPn; obtain ⟨A_m, c_m, rfl⟩ := Kd.R_slice (HP.out.row 0 rfl); clear hb ho
  go_wp2_with fail
  (with_reducible refine (c_consts _).mono ?_); rintro e wn5 ⟨v, rfl, ho, hb⟩; have HPn := Aside0.mk (HP.out.newR hb ho); clear HP; have HP := HPn; clear HPn; obtain ⟨A_k, c_k, rfl⟩ := Kd.R_slice (HP.out.row 0 rfl); clear hb ho
  go_wp2_with fail
  have HP1 := Aside0.mk (show Hp w wn5 [.row (Kd.int .u32) 56 w.heap.size (.slice A_k KW.length c_k) KW, .row (Kd.int .u8) 5 w.heap.size (.slice A_m (b ++ padI b.length).length c_m) (b ++ padI b.length), .blk g_s (.cells (u32s H0.l).toArray 58 (0, 0)), .blk g_o (.cells (u8s (List.replicate 32 0)).toArray 29 (0, 0))] from HP.out)
  clear HP
  obtain ⟨M, hM⟩ : ∃ M, b ++ padI b.length = M := ⟨_, rfl⟩
  rw [hM] at HP1
  obtain ⟨n, hn⟩ : ∃ n, M.length / 64 = n := ⟨_, rfl⟩
  have hML : M.length = 64 * n := by rw [← hM] at hn ⊢; have := pad_len b; omega
  have hMB : Bytes M := by rw [← hM]; exact pad_bytes HBY.out
  have HF := Aside0.mk (show sha b = outI (foldB n H0 M).l 32 by unfold sha; rw [hM, hn])
  have HB0 := Aside0.mk (fun (w' : World) (l : List Int) (hp : Hp w w' [.row (Kd.int .u32) 56 w.heap.size (.slice A_k KW.length c_k) KW, .row (Kd.int .u8) 5 w.heap.size (.slice A_m M.length c_m) M, .blk g_s (.cells (u32s l).toArray 58 (0, 0)), .blk g_o (.cells (u8s (List.replicate 32 0)).toArray 29 (0, 0))]) => (Kd.R_reads' (hp.row 1 rfl)).2.2)
  have HC0 := Aside0.mk (Kd.R_reads' (HP1.out.row 1 rfl)).2.1
  rw [show b.length + (padI b.length).length = M.length from by rw [← hM, List.length_append]]
  clear hn hM
  go_loopg [4] n (fun kq v4 w' => ∃ (r : List Int) (A2 : Option Addr) (c2 : Nat) (vv : V8), v4 = .slice A2 r.length c2 ∧ Aside0 (r.length = 64 * kq) ∧ Aside0 (Bytes r) ∧ Aside0 (r.length ≤ c2) ∧ Aside0 (foldB kq vv r = foldB n H0 M) ∧ Aside0 (∀ (w' : World) (l : List Int), Hp w w' [.row (Kd.int .u32) 56 w.heap.size (.slice A_k KW.length c_k) KW, .row (Kd.int .u8) 5 w.heap.size (.slice A_m M.length c_m) M, .blk g_s (.cells (u32s l).toArray 58 (0, 0)), .blk g_o (.cells (u8s (List.replicate 32 0)).toArray 29 (0, 0))] → Kd.C (Kd.int .u8) w' A2 r.length r) ∧ Aside0 (Hp w w' [.row (Kd.int .u32) 56 w.heap.size (.slice A_k KW.length c_k) KW, .row (Kd.int .u8) 5 w.heap.size (.slice A_m M.length c_m) M, .blk g_s (.cells (u32s vv.l).toArray 58 (0, 0)), .blk g_o (.cells (u8s (List.replicate 32 0)).toArray 29 (0, 0))]))
  case atStart => exact ⟨M, A_m, c_m, H0, rfl, ⟨hML⟩, ⟨hMB⟩, HC0, ⟨rfl⟩, HB0, HP1⟩
  case round =>
    clear HP1 HB0 HC0 hML hMB
    obtain ⟨r, A2, c2, vv, rfl, HL, HBR, HC2, HFB, HCC, HP⟩ := hrel
    by_cases h0 : 0 < r.length
    · have d1 : decide (0 < r.length) = true := decide_eq_true h0
      have d1i : decide ((0 : Int) < (r.length : Int)) = true := decide_eq_true (by omega)
      obtain ⟨q, hq⟩ : ∃ q, gk = q + 1 := ⟨gk - 1, by have := HL.out; omega⟩
      subst hq
      have hrl : r.length = 64 * q + 64 := by have := HL.out; omega
      obtain ⟨wd, hwd⟩ : ∃ z_ : World, wr.drew = z_ := ⟨_, rfl⟩
      have HPd := Aside0.mk (HP.out.drewN 1)
      rw [← World.drew_is_drewN, hwd] at HPd
      have hc0 : wd.cell? ⟨g_s, 0, none⟩ = some (.int .u32 vv.a) := cellN (l := vv.l) (HPd.out.blk 2 rfl) 0 (by show 0 < 8; decide)
      have hc1 : wd.cell? ⟨g_s, 1, none⟩ = some (.int .u32 vv.b) := cellN (l := vv.l) (HPd.out.blk 2 rfl) 1 (by show 1 < 8; decide)
      have hc2 : wd.cell? ⟨g_s, 2, none⟩ = some (.int .u32 vv.c) := cellN (l := vv.l) (HPd.out.blk 2 rfl) 2 (by show 2 < 8; decide)
      have hc3 : wd.cell? ⟨g_s, 3, none⟩ = some (.int .u32 vv.d) := cellN (l := vv.l) (HPd.out.blk 2 rfl) 3 (by show 3 < 8; decide)
      have hc4 : wd.cell? ⟨g_s, 4, none⟩ = some (.int .u32 vv.e) := cellN (l := vv.l) (HPd.out.blk 2 rfl) 4 (by show 4 < 8; decide)
      have hc5 : wd.cell? ⟨g_s, 5, none⟩ = some (.int .u32 vv.f) := cellN (l := vv.l) (HPd.out.blk 2 rfl) 5 (by show 5 < 8; decide)
      have hc6 : wd.cell? ⟨g_s, 6, none⟩ = some (.int .u32 vv.g) := cellN (l := vv.l) (HPd.out.blk 2 rfl) 6 (by show 6 < 8; decide)
      have hc7 : wd.cell? ⟨g_s, 7, none⟩ = some (.int .u32 vv.h) := cellN (l := vv.l) (HPd.out.blk 2 rfl) 7 (by show 7 < 8; decide)
      obtain ⟨i5, hi5, _, hsz5, _⟩ := info_parts info5
      have hcutA := cut_to (P := Try.prog) 22 5 .i64 Try.underlying22 hi5 A2 r.length c2 64 (by decide) (by omega) HC2.out
      have hcutB := cut_from (P := Try.prog) 22 5 .i64 Try.underlying22 hi5 1 hsz5 A2 r.length c2 64 (by decide) (by omega)
      rw [show (64 : Int).toNat = 64 from rfl] at hcutA hcutB
      obtain ⟨A3, hA3⟩ : ∃ A3, (if c2 = 64 then A2 else A2.map (·.add (64 * 1))) = A3 := ⟨_, rfl⟩
      rw [hA3, show r.length - 64 = (r.drop 64).length from (List.length_drop ..).symm] at hcutB
      obtain ⟨c3, hc3⟩ : ∃ c3, c2 - 64 = c3 := ⟨_, rfl⟩
      rw [hc3] at hcutB
      have htl : (r.take 64).length = 64 := by rw [List.length_take]; omega
      have CB := c_block vv (r.take 64) htl (fun x hx => HBR.out x (List.mem_of_mem_take hx)) A2 c2 A_k c_k wd (by rw [htl]; have h1 := Kd.C_take (m := 64) (HCC.out wd vv.l HPd.out) (by omega); rw [htl] at h1; exact h1) (by rw [htl]; have := HC2.out; omega) (Kd.R_reads' (HPd.out.row 0 rfl)).2.2
      rw [htl] at CB
      have CBA := Aside0.mk CB
      have HRL := Aside0.mk hrl
      have HFN := Aside0.mk (show foldB q (behV vv (r.take 64)) (r.drop 64) = foldB n H0 M from HFB.out)
      have HLN := Aside0.mk (show (r.drop 64).length = 64 * q by rw [List.length_drop]; omega)
      have HBN := Aside0.mk (show Bytes (r.drop 64) from fun x hx => HBR.out x (List.mem_of_mem_drop hx))
      have HCN := Aside0.mk (show (r.drop 64).length ≤ c3 by rw [List.length_drop, ← hc3]; have := HC2.out; omega)
      have HCCN := Aside0.mk (fun (w' : World) (l : List Int) (hp : Hp w w' [.row (Kd.int .u32) 56 w.heap.size (.slice A_k KW.length c_k) KW, .row (Kd.int .u8) 5 w.heap.size (.slice A_m M.length c_m) M, .blk g_s (.cells (u32s l).toArray 58 (0, 0)), .blk g_o (.cells (u8s (List.replicate 32 0)).toArray 29 (0, 0))]) => (show Kd.C (Kd.int .u8) w' A3 (r.drop 64).length (r.drop 64) from by
        rw [← hA3]; exact Kd.C_drop (m := 64) (c := c2) (HCC.out w' l hp) (by omega) HC2.out))
      have hge : (64 : Int) ≤ (r.length : Int) := by omega
      clear CB hrl htl hA3 hc3
      go_wp2
      refine still_mix 4 [4, 5] (by kernel_rfl) (by kernel_rfl) hwd (fun N _ _ _ _ h => by cases N <;> exact h) ?_
      simp only [List.take_succ_cons, List.take_zero, List.drop_succ_cons, List.drop_zero]
      repeat (refine wpVal_step (fun K hK => ?_); go_simp; refine hK _ ?_; clear hK K)
      refine wpVal_nil ?_
      go_wp2_with (first | (go_at_call 38; refine CBA.out.mono ?_; rintro e w4 ⟨rfl, hb4⟩; have HPf := Aside0.mk (HPd.out.call hb4); clear hb4) | ((with_reducible refine gate_store (t := 58) (p := 3) rfl ?_); refine ev_store rfl 58 (.tmp 3) (.tmp 21) rfl rfl _ rfl (cells := (u32s (behV vv (r.take 64)).l).toArray) (by rw [behV_l]; rfl) (HPf.out.blk 2 rfl) (by rw [List.size_toArray, u32s_len, behV_l, behI_len]; kernel_rfl) (by rw [List.size_toArray, List.size_toArray, u32s_len, u32s_len, behV_l, behI_len]; rfl) (one_u32 _) ?_; intro w5 hg5 hgr5; have HPg := Aside0.mk (HPf.out.setB 2 rfl hgr5 hg5); clear hg5 hgr5))
      go_roundg q
      case measure => omega
      case rel => exact ⟨r.drop 64, A3, c3, behV vv (r.take 64), by rw [List.length_drop], HLN, HBN, HCN, HFN, HCCN, HPg⟩
    · obtain rfl : r = [] := List.eq_nil_of_length_eq_zero (by omega)
      have hgk : gk = 0 := by have := HL.out; simp at this; omega
      subst hgk
      have HV := Aside0.mk (show vv = foldB n H0 M from HFB.out)
      have d0 : decide ((0 : Int) < (([] : List Int).length : Int)) = false := by decide
      have hc0 : wr.cell? ⟨g_s, 0, none⟩ = some (.int .u32 vv.a) := cellN (l := vv.l) (HP.out.blk 2 rfl) 0 (by show 0 < 8; decide)
      have hc1 : wr.cell? ⟨g_s, 1, none⟩ = some (.int .u32 vv.b) := cellN (l := vv.l) (HP.out.blk 2 rfl) 1 (by show 1 < 8; decide)
      have hc2 : wr.cell? ⟨g_s, 2, none⟩ = some (.int .u32 vv.c) := cellN (l := vv.l) (HP.out.blk 2 rfl) 2 (by show 2 < 8; decide)
      have hc3 : wr.cell? ⟨g_s, 3, none⟩ = some (.int .u32 vv.d) := cellN (l := vv.l) (HP.out.blk 2 rfl) 3 (by show 3 < 8; decide)
      have hc4 : wr.cell? ⟨g_s, 4, none⟩ = some (.int .u32 vv.e) := cellN (l := vv.l) (HP.out.blk 2 rfl) 4 (by show 4 < 8; decide)
      have hc5 : wr.cell? ⟨g_s, 5, none⟩ = some (.int .u32 vv.f) := cellN (l := vv.l) (HP.out.blk 2 rfl) 5 (by show 5 < 8; decide)
      have hc6 : wr.cell? ⟨g_s, 6, none⟩ = some (.int .u32 vv.g) := cellN (l := vv.l) (HP.out.blk 2 rfl) 6 (by show 6 < 8; decide)
      have hc7 : wr.cell? ⟨g_s, 7, none⟩ = some (.int .u32 vv.h) := cellN (l := vv.l) (HP.out.blk 2 rfl) 7 (by show 7 < 8; decide)
      have V32 := Aside0.mk (show ∀ q : Nat, 0 ≤ rd vv.l q ∧ rd vv.l q < 4294967296 from by rw [HV.out]; exact foldB_u32 n M)
      clear HFB HCC HC2 HBR HL h0
      go_wp2
      have HPa := Aside0.mk ((HP.out.alloc (.cells (u32s vv.l).toArray 56 (0, 0))).alloc (.cells (u8s (List.replicate 32 0)).toArray 29 (0, 0)))
      clear HP hc0 hc1 hc2 hc3 hc4 hc5 hc6 hc7
      have ho : ∃ wo, (wr.alloc (.cells (u32s vv.l).toArray 56 (0, 0))).alloc (.cells (u8s (List.replicate 32 0)).toArray 29 (0, 0)) = wo := ⟨_, rfl⟩
      obtain ⟨wo, hwo⟩ := ho
      rw [hwo] at HPa
      obtain ⟨g_t, hgt⟩ : ∃ g, (wr.alloc (.cells (u32s vv.l).toArray 56 (0, 0))).heap.size = g := ⟨_, rfl⟩
      obtain ⟨g_l, hgl⟩ : ∃ g, wr.heap.size = g := ⟨_, rfl⟩
      have hgt2 : wr.heap.size + 1 = g_t := by rw [← hgt]; exact (Array.size_push ..).symm
      rw [hgt, hgl] at HPa
      have hwo2 : (wr.alloc (.cells #[.int .u32 vv.a, .int .u32 vv.b, .int .u32 vv.c, .int .u32 vv.d, .int .u32 vv.e, .int .u32 vv.f, .int .u32 vv.g, .int .u32 vv.h] 56)).alloc (.cells #[.int .u8 0, .int .u8 0, .int .u8 0, .int .u8 0, .int .u8 0, .int .u8 0, .int .u8 0, .int .u8 0, .int .u8 0, .int .u8 0, .int .u8 0, .int .u8 0, .int .u8 0, .int .u8 0, .int .u8 0, .int .u8 0, .int .u8 0, .int .u8 0, .int .u8 0, .int .u8 0, .int .u8 0, .int .u8 0, .int .u8 0, .int .u8 0, .int .u8 0, .int .u8 0, .int .u8 0, .int .u8 0, .int .u8 0, .int .u8 0, .int .u8 0, .int .u8 0] 29) = wo := hwo
      rw [hwo2, hgt2, hgl]
      have hne1 : ¬ g_l = g_t := by omega
      have hne2 : ¬ g_t = g_l := by omega
      clear hwo2 hwo hgt2 hgt hgl d0
      go_loopg [8, 9] 8 (fun kq v8 v9 w' => ∃ (i : Nat) (x : Int) (l o : List Int), v8 = .int .i64 x ∧ Aside0 (x = (i : Int)) ∧ Aside0 (kq + i = 8) ∧ Aside0 (l.length = 8 ∧ ∀ q : Nat, i ≤ q → rd l q = rd vv.l q) ∧ Aside0 (o.length = 32 ∧ ∀ q : Nat, q < 4 * i → rd o q = byteI vv.l q) ∧ Aside0 (Hp w w' [.blk g_t (.cells (u8s o).toArray 29 (0, 0)), .blk g_l (.cells (u32s l).toArray 56 (0, 0)), .row (Kd.int .u32) 56 w.heap.size (.slice A_k KW.length c_k) KW, .row (Kd.int .u8) 5 w.heap.size (.slice A_m M.length c_m) M, .blk g_s (.cells (u32s vv.l).toArray 58 (0, 0)), .blk g_o (.cells (u8s (List.replicate 32 0)).toArray 29 (0, 0))]))
      case atStart => exact ⟨0, 0, vv.l, List.replicate 32 0, rfl, ⟨rfl⟩, ⟨rfl⟩, ⟨rfl, fun q _ => rfl⟩, ⟨rfl, fun q h => absurd h (by omega)⟩, HPa⟩
      clear HPa
      obtain ⟨i, x, l, o, rfl, HX, HK, HL, HO, HP⟩ := hrel
      have hx := HX.out
      by_cases c2 : i < 8
      · have d1 : decide (x < 8) = true := decide_eq_true (by omega)
        have px : 0 ≤ x := by omega
        have qx : x < 8 := by omega
        have ex := i64k (x := x + 1) rfl (by omega)
        have HC2 := Aside0.mk c2
        clear hx c2
        go_wp2
        go_loopg [9] 4 (fun kq v9 w' => ∃ (k : Nat) (y : Int) (l o : List Int), v9 = .int .i64 y ∧ Aside0 (y = 3 - (k : Int)) ∧ Aside0 (kq + k = 4) ∧ Aside0 (l.length = 8 ∧ (∀ q : Nat, i < q → rd l q = rd vv.l q) ∧ rd l i = rd vv.l i / 256 ^ k) ∧ Aside0 (o.length = 32 ∧ (∀ q : Nat, q < 4 * i → rd o q = byteI vv.l q) ∧ ∀ q : Nat, 4 * i + 4 - k ≤ q → q < 4 * i + 4 → rd o q = byteI vv.l q) ∧ Aside0 (Hp w w' [.blk g_t (.cells (u8s o).toArray 29 (0, 0)), .blk g_l (.cells (u32s l).toArray 56 (0, 0)), .row (Kd.int .u32) 56 w.heap.size (.slice A_k KW.length c_k) KW, .row (Kd.int .u8) 5 w.heap.size (.slice A_m M.length c_m) M, .blk g_s (.cells (u32s vv.l).toArray 58 (0, 0)), .blk g_o (.cells (u8s (List.replicate 32 0)).toArray 29 (0, 0))]))
        case atStart => exact ⟨0, 3, l, o, rfl, ⟨rfl⟩, ⟨rfl⟩, ⟨HL.out.1, fun q hq => HL.out.2 q (by omega), by rw [HL.out.2 i (Nat.le_refl _)]; simp⟩, ⟨HO.out.1, HO.out.2, fun q h1 h2 => absurd h2 (by omega)⟩, ⟨HP.out⟩⟩
        clear HP HL HO
        obtain ⟨k, y, l, o, rfl, HY, HJ, HL, HO, HP⟩ := hrel
        have hy := HY.out
        have hx := HX.out
        by_cases c3 : k < 4
        · have d2 : decide (0 ≤ y) = true := decide_eq_true (by omega)
          have ey := i64k (x := y - 1) rfl (by omega)
          obtain ⟨z0, hz0⟩ : ∃ z, 4 * x = z := ⟨_, rfl⟩
          have e0 := i64k hz0 (by omega)
          obtain ⟨z1, hz1⟩ : ∃ z, z0 + y = z := ⟨_, rfl⟩
          have e1 := i64k hz1 (by omega)
          have p1 : 0 ≤ z1 := by omega
          have q1 : z1 < 32 := by omega
          have hcl := cellL (HP.out.blk 1 rfl) x px (by rw [HL.out.1]; omega)
          have hfl := frozC (HP.out.blk 1 rfl) x.toNat
          have hco := cellL (HP.out.blk 0 rfl) z1 p1 (by rw [HO.out.1]; omega)
          have hfo := frozC (HP.out.blk 0 rfl) z1.toNat
          have HB4 := Aside0.mk c3
          have HZ := Aside0.mk (And.intro hz0 hz1)
          clear hy hx c3 hz0 hz1
          go_wp2
          have hlx : rd l x = rd vv.l i / 256 ^ k := by rw [HX.out]; exact HL.out.2.2
          have hv := V32.out i
          have hz1n : z1.toNat = 4 * i + 3 - k := by have := HZ.out.1; have := HZ.out.2; have := HX.out; have := HY.out; have := HB4.out; omega
          have hxn : x.toNat = i := by have := HX.out; omega
          obtain ⟨n0, hn0⟩ : ∃ n0, 4 * i + 3 - k = n0 := ⟨_, rfl⟩
          have hbyte : rd l x % 256 = byteI vv.l n0 := by
            unfold byteI
            rw [hlx, show n0 / 4 = i by have := HB4.out; omega, show 24 - 8 * (n0 % 4) = 8 * k by have := HB4.out; omega, show (2 : Int) ^ (8 * k) = 256 ^ k by rw [Int.pow_mul]; rfl]
          have hdiv : (rd l x).tdiv 256 % 4294967296 = rd vv.l i / 256 ^ (k + 1) := by
            have hnn : 0 ≤ rd vv.l i / 256 ^ k := Int.ediv_nonneg hv.1 (Int.pow_nonneg (by decide))
            have hle : rd vv.l i / 256 ^ k ≤ rd vv.l i := Int.ediv_le_self _ hv.1
            rw [hlx, Int.tdiv_eq_ediv_of_nonneg hnn, Int.pow_succ, ← Int.ediv_ediv_of_nonneg (Int.pow_nonneg (by decide)), Int.emod_eq_of_lt (Int.ediv_nonneg hnn (by decide)) (by omega)]
          have HPn := Aside0.mk ((HP.out.setCell 0 rfl n0 (.int .u8 (byteI vv.l n0))).setCell 1 rfl i (.int .u32 (rd vv.l i / 256 ^ (k + 1))))
          rw [show (u8s o).toArray.setIfInBounds n0 (.int .u8 (byteI vv.l n0)) = (u8s (o.set n0 (byteI vv.l n0))).toArray from setL (k := .u8) _ _ _, show (u32s l).toArray.setIfInBounds i (.int .u32 (rd vv.l i / 256 ^ (k + 1))) = (u32s (l.set i (rd vv.l i / 256 ^ (k + 1)))).toArray from setL (k := .u32) _ _ _, ← hbyte, ← hdiv] at HPn
          rw [hz1n, hxn, hn0]
          have hb4 := HB4.out
          have hi8 := HC2.out
          go_roundg (gk - 1)
          case measure => have := HJ.out; omega
          case rel => exact ⟨k + 1, y - 1, _, _, rfl, ⟨by have := HY.out; omega⟩, ⟨by have := HJ.out; omega⟩, ⟨by rw [List.length_set]; exact HL.out.1, fun q hq => by rw [rd_set_ne _ (by omega)]; exact HL.out.2.1 q hq, by rw [rd_set_eq _ (by rw [HL.out.1]; exact hi8)]; exact hdiv⟩, ⟨by rw [List.length_set]; exact HO.out.1, fun q hq => by rw [rd_set_ne _ (by omega)]; exact HO.out.2.1 q hq, fun q h1 h2 => by
            by_cases hq : q = n0
            · subst hq; rw [rd_set_eq _ (by rw [HO.out.1]; omega)]; exact hbyte
            · rw [rd_set_ne _ (fun h => hq h.symm)]; exact HO.out.2.2 q (by omega) h2⟩, HPn⟩
        · have d2 : decide (0 ≤ y) = false := decide_eq_false (by have := HJ.out; omega)
          obtain rfl : k = 4 := by have := HJ.out; omega
          have hi8 := HC2.out
          clear hx hy c3
          go_wp2
          go_roundg (7 - i)
          case measure => have := HK.out; omega
          case rel => exact ⟨i + 1, x + 1, l, o, by simp, ⟨by have := HX.out; omega⟩, ⟨by have := HK.out; omega⟩, ⟨HL.out.1, fun q hq => HL.out.2.1 q (by omega)⟩, ⟨HO.out.1, fun q hq => by
            by_cases h : q < 4 * i
            · exact HO.out.2.1 q h
            · exact HO.out.2.2 q (by omega) (by omega)⟩, ⟨HP.out⟩⟩
      · have d1 : decide (x < 8) = false := decide_eq_false (by omega)
        obtain rfl : i = 8 := by have := HK.out; omega
        have ho : o = outI vv.l 32 := ext_rd (by rw [HO.out.1, outI_len _ _ (Nat.le_refl _)]) fun q hq => by
          rw [HO.out.2 q (by rw [HO.out.1] at hq; omega)]
          exact (rd_outI vv.l q (by rw [HO.out.1] at hq; omega)).symm
        subst ho
        clear hx c2 HX HK HO
        go_wp2_with (first | ((with_reducible refine gate_dst (N := 67) rfl ?_); refine ev_load rfl 29 (.tmp 7) rfl g_t rfl (HP.out.blk 0 rfl) Try.underlying29 rfl (by rw [List.size_toArray, u8s_len, outI_len _ _ (Nat.le_refl _)]; kernel_rfl) ?_) | ((with_reducible refine gate_store (t := 29) (p := 2) rfl ?_); refine ev_store rfl 29 (.tmp 2) (.tmp 67) rfl rfl _ rfl (cells := (u8s (outI vv.l 32)).toArray) rfl (HP.out.blk 5 rfl) (by rw [List.size_toArray, u8s_len, outI_len _ _ (Nat.le_refl _)]; kernel_rfl) (by rw [List.size_toArray, List.size_toArray, u8s_len, u8s_len, outI_len _ _ (Nat.le_refl _)]; rfl) (one_u8 _) ?_; intro wn61 hg hgr; have HPn := Aside0.mk (HP.out.setB 5 rfl hgr hg); clear HP; have HP := HPn; clear HPn; clear hg hgr))
        refine bodyPost_ret (results_cell_row rfl _ _ g_o 29 (u8s (outI vv.l 32)).toArray (0, 0) _ rfl (HP.out.blk 5 rfl) Try.underlying29 rfl (by rw [List.size_toArray, u8s_len, outI_len _ _ (Nat.le_refl _)]; kernel_rfl)) rfl ?_
        exact ⟨by rw [HF.out, HV.out], HP.out.below⟩
end Go.Proofs.Ytncmbkjjoamfjaa.H
