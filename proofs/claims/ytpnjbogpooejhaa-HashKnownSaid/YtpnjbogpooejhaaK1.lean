import Derived.Test.YtpnjbogpooejhaaH6
import Derived.Lib.Bytealg
namespace Go.Proofs.Ytpnjbogpooejhaa.H
open Go.RowKit Go.Proofs.Ytpnjbogpooejhaa.XH Go.Proofs.YtpnjbogpooejhaaW.PrintWords Go.Proofs.YtpnjbogpooejhaaW.PrintLast Go.Proofs.YtpnjbogpooejhaaW.PrintMore Go.Proofs.YtpnjbogpooejhaaXe Go.Proofs.YtpnjbogpooejhaaXs
set_option linter.unusedVariables false
set_option linter.unusedSimpArgs false
attribute [local go_sem ↓] Go.wp_at_zero Go.wp_at_succ
attribute [local go_sem] valUpon
attribute [local go_sem ↓ high] bn23
attribute [local go_sem high] BN23.run
def DG : ByteArray := ⟨#[48, 49, 50, 51, 52, 53, 54, 55, 56, 57, 97, 98, 99, 100, 101, 102]⟩
/-- a digit -/
def dgI (n : Int) : Int := bt DG n
/-- half a byte -/
def nibI (id : List Int) (q : Nat) : Int := if q % 2 = 0 then rd id ((q / 2 : Nat) : Int) / 16 else rd id ((q / 2 : Nat) : Int) % 16
def txI (id : List Int) : List Int := (List.range 64).map fun q => dgI (nibI id q)
theorem txI_len (id : List Int) : (txI id).length = 64 := by simp [txI]
theorem txI_next (id : List Int) (q : Nat) (h : q < 64) : (txI id).take (q + 1) = (txI id).take q ++ [dgI (nibI id q)] := by
  rw [List.take_succ_eq_append_getElem (by rw [txI_len]; exact h)]
  simp [txI]
theorem u8_and15 (x : Int) (h0 : 0 ≤ x) (h1 : x < 256) : Go.bits .and .u8 x 15 = x % 16 := by
  have := bits_mask .u8 8 (by decide) (fun n a b => wraps_u8 n a b) 4 (by decide) x h0 h1
  simpa using this
theorem rd_byte {l : List Int} (h : ∀ x ∈ l, 0 ≤ x ∧ x < 256) (q : Int) : 0 ≤ rd l q ∧ rd l q < 256 := by
  unfold Go.Proofs.YtpnjbogpooejhaaW.PrintWords.rd
  by_cases hi : q.toNat < l.length
  · rw [List.getD_eq_getElem?_getD, List.getElem?_eq_getElem hi]; exact h _ (List.getElem_mem hi)
  · rw [List.getD_eq_getElem?_getD, List.getElem?_eq_none (by omega)]; decide
set_option maxHeartbeats 8000000 in
set_option maxRecDepth 100000 in
theorem c_text (id : List Int) (hl : id.length = 32) (hb : ∀ x ∈ id, 0 ≤ x ∧ x < 256) (w : World) : Calls Try.prog 13 #[.agg (u8s id).toArray] w fun e w' => e = .returned (.string (strOfNums (txI id))) ∧ Below w.heap.size w w' := by
  have HL := Aside0.mk hl
  have HBY := Aside0.mk hb
  have HP := Aside0.mk (Hp.start w)
  clear hl hb
  go_enter Try.func13, Try.ntmps13
  go_wp2_with (first | ((with_reducible refine gate_dst (N := 1) rfl ?_); refine ev_box rfl 23 (.tmp 0) rfl (u8s id).toArray rfl ?_; intro g_b wn1 hge hg hb; have HPn := Aside0.mk (HP.out.newB hb hg hge); clear HP; have HP := HPn; clear HPn; clear hge hg hb) | ((with_reducible refine gate_dst (N := 6) rfl ?_); refine ev_load rfl 23 (.tmp 1) rfl g_b rfl (HP.out.blk 0 rfl) Try.underlying23 rfl (by rw [List.size_toArray, u8s_len, HL.out]; kernel_rfl) ?_))
  have HP1 := Aside0.mk (show Hp w wn1 [.row (Kd.int .u8) 5 w.heap.size (.slice none 0 0) ((txI id).take (2 * 0)), .blk g_b (.cells (u8s id).toArray 23 (0, 0))] from HP.out.newR (Below.refl _ _) (Kd.R_nil (Kd.int .u8) 5 wn1 wn1.heap.size (fun _ => True)))
  clear HP
  go_loopg [3, 5, 7] 32 (fun kq v3 v5 v7 w' => ∃ (i : Nat) (x : Int), v7 = .int .i64 x ∧ Aside0 (x = (i : Int)) ∧ Aside0 (kq + i = 32) ∧ Aside0 (Hp w w' [.row (Kd.int .u8) 5 w.heap.size v3 ((txI id).take (2 * i)), .blk g_b (.cells (u8s id).toArray 23 (0, 0))]))
  case atStart => exact ⟨0, 0, rfl, ⟨rfl⟩, ⟨rfl⟩, HP1⟩
  clear HP1
  obtain ⟨i, x, rfl, HX, HK, HP⟩ := hrel
  obtain ⟨l3, hl3⟩ : ∃ l, (txI id).take (2 * i) = l := ⟨_, rfl⟩
  rw [hl3] at HP
  have hl3n : l3.length ≤ 64 := by rw [← hl3, List.length_take, txI_len]; omega
  have HL3 := Aside0.mk hl3
  have HL3N := Aside0.mk hl3n
  clear hl3 hl3n
  obtain ⟨A_3, c_3, rfl⟩ := Kd.R_slice (HP.out.row 0 rfl)
  have hx := HX.out
  by_cases c1 : i < 32
  · have d1 : decide (x < 32) = true := decide_eq_true (by omega)
    have px : 0 ≤ x := by omega
    have qx : x < 32 := by omega
    have ex := i64k (x := x + 1) rfl (by omega)
    have hix : (Instr.index 23 (.agg (u8s id).toArray) (.int .i64 x)).run Try.prog wr = .ok (.int .u8 (rd id x)) wr := run_index_arr Try.underlying23 Try.underlying5 (by kernel_rfl) HL.out x px qx
    obtain ⟨c, hc⟩ : ∃ c, rd id x = c := ⟨_, rfl⟩
    rw [hc] at hix
    have hcb : 0 ≤ c ∧ c < 256 := by rw [← hc]; exact rd_byte HBY.out x
    obtain ⟨hc0, hc1⟩ := hcb
    obtain ⟨wd, hwd⟩ : ∃ z_ : World, wr.drew = z_ := ⟨_, rfl⟩
    have HPd := Aside0.mk (HP.out.drewN 1)
    rw [← World.drew_is_drewN, hwd] at HPd
    obtain ⟨n1, hn1⟩ : ∃ n, c / 16 = n := ⟨_, rfl⟩
    obtain ⟨n2, hn2⟩ : ∃ n, c % 16 = n := ⟨_, rfl⟩
    have hs1 : c / 2 ^ min (4 : Int).toNat IntKind.u8.bits = n1 := hn1
    have hs2 : c / 16 = n1 := hn1
    have ha2 : Go.bits .and .u8 c 15 = n2 := by rw [u8_and15 c hc0 hc1]; exact hn2
    have b1 : 0 ≤ n1 := by omega
    have b2 : n1 < 16 := by omega
    have b3 : 0 ≤ n2 := by omega
    have b4 : n2 < 16 := by omega
    have hx1 := bt_at (⟨#[48, 49, 50, 51, 52, 53, 54, 55, 56, 57, 97, 98, 99, 100, 101, 102]⟩ : ByteArray) n1
    have hx2 := bt_at (⟨#[48, 49, 50, 51, 52, 53, 54, 55, 56, 57, 97, 98, 99, 100, 101, 102]⟩ : ByteArray) n2
    obtain ⟨e1, he1⟩ : ∃ e, bt (⟨#[48, 49, 50, 51, 52, 53, 54, 55, 56, 57, 97, 98, 99, 100, 101, 102]⟩ : ByteArray) n1 = e := ⟨_, rfl⟩
    obtain ⟨e2, he2⟩ : ∃ e, bt (⟨#[48, 49, 50, 51, 52, 53, 54, 55, 56, 57, 97, 98, 99, 100, 101, 102]⟩ : ByteArray) n2 = e := ⟨_, rfl⟩
    rw [he1] at hx1
    rw [he2] at hx2
    have HN := Aside0.mk (And.intro hc (And.intro hn1 (And.intro hn2 (And.intro he1 he2))))
    clear he1 he2
    have HI := Aside0.mk c1
    clear hc hn1 hn2 hx hc0 hc1 c1
    go_wp2_with fail
    refine still_mix 7 [7, 8, 9] (by kernel_rfl) (by kernel_rfl) hwd (fun N _ _ _ _ h => by cases N <;> exact h) ?_
    simp only [List.take_succ_cons, List.take_zero, List.drop_succ_cons, List.drop_zero]
    repeat (refine wpVal_step (fun K hK => ?_); go_simp; refine hK _ ?_; clear hK K)
    refine wpVal_nil ?_
    go_wp2_with (first | ((with_reducible refine gate_dst (N := 17) rfl ?_); refine ev_lit (d := Kd.int .u8) HPd.out 5 (xs := [e1, e2]) (inner := [e1, e2].map (Value.int .u8)) rfl (N := 17) rfl ?hr17 (reps_ints _ _ _ _) (by simp) ?_; (case hr17 => first | (go_simp; done) | (go_simp; rfl)); intro v_l wl hpn; clear HPd HP; have HP := Aside0.mk hpn; clear hpn; obtain ⟨A_l, c_l, rfl⟩ := Kd.R_slice (HP.out.row 0 rfl)) | ((with_reducible refine gate_builtin (b := .append) (xs := #[.tmp 10, .tmp 17]) rfl ?_); at_builtin; refine ev_append (plain_int .u8) HP.out 1 rfl (.tmp 10) (.tmp 17) 32 5 (.int .u8 0) 1 rfl Try.underlying32 info5 rfl (by decide) (by omega) _ l3 [e1, e2] _ _ _ rfl rfl rfl (Kd.R_reads' (HP.out.row 0 rfl)).2.2 (by have := HL3N.out; simp only [List.length_cons, List.length_nil]; omega) ?_; intro v_3 w7 hp; clear HP; have HP := Aside0.mk (Hp.drop1 hp); clear hp))
    have HPn := Aside0.mk (show Hp w w7 [.row (Kd.int .u8) 5 w.heap.size v_3 ((txI id).take (2 * (i + 1))), .blk g_b (.cells (u8s id).toArray 23 (0, 0))] from by
      have h1 : (txI id).take (2 * (i + 1)) = (txI id).take (2 * i) ++ [e1, e2] := by
        obtain ⟨k0, k1, k2, k3, k4⟩ := HN.out
        have hi := HI.out
        rw [show 2 * (i + 1) = (2 * i + 1) + 1 by omega, txI_next id (2 * i + 1) (by omega), txI_next id (2 * i) (by omega), List.append_assoc]
        have j1 : nibI id (2 * i) = n1 := by unfold nibI; rw [if_pos (by omega), ← k1, ← k0, show 2 * i / 2 = i by omega, ← HX.out]
        have j2 : nibI id (2 * i + 1) = n2 := by unfold nibI; rw [if_neg (by omega), ← k2, ← k0, show (2 * i + 1) / 2 = i by omega, ← HX.out]
        rw [j1, j2, HL3.out, ← k3, ← k4]
        rfl
      rw [h1, HL3.out]; exact HP.out)
    go_roundg (gk - 1)
    case measure => have := HK.out; have := HI.out; omega
    case rel => exact ⟨i + 1, x + 1, by simp, ⟨by have := HX.out; omega⟩, ⟨by have := HK.out; have := HI.out; omega⟩, HPn⟩
  · have d1 : decide (x < 32) = false := decide_eq_false (by omega)
    obtain rfl : i = 32 := by have := HK.out; omega
    have hcv := own_string (P := Try.prog) Try.underlying32 Try.underlying5 Try.underlying9 (Kd.own_of_R (HP.out.row 0 rfl))
    obtain rfl : l3 = txI id := by rw [← HL3.out]; exact List.take_of_length_le (by rw [txI_len]; omega)
    clear hx c1
    go_wp2
    go_ret
    exact ⟨rfl, HP.out.below⟩
end Go.Proofs.Ytpnjbogpooejhaa.H
