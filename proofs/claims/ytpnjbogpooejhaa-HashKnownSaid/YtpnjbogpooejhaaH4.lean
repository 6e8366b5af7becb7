import Derived.Test.YtpnjbogpooejhaaH3
namespace Go.Proofs.Ytpnjbogpooejhaa.H
open Go.RowKit Go.Proofs.Ytpnjbogpooejhaa.XH Go.Proofs.YtpnjbogpooejhaaW.PrintWords Go.Proofs.YtpnjbogpooejhaaW.PrintLast Go.Proofs.YtpnjbogpooejhaaW.PrintMore Go.Proofs.YtpnjbogpooejhaaXe Go.Proofs.YtpnjbogpooejhaaXs
set_option linter.unusedVariables false
set_option linter.unusedSimpArgs false
attribute [local go_sem ↓] Go.wp_at_zero Go.wp_at_succ
attribute [local go_sem] valUpon
/-- blocks, one behind the other -/
noncomputable def behV (v : V8) (b : List Int) : V8 := let l := behI v b; ⟨rd l 0, rd l 1, rd l 2, rd l 3, rd l 4, rd l 5, rd l 6, rd l 7⟩
theorem behI_len (v : V8) (b : List Int) : (behI v b).length = 8 := addI_len _ _ _
theorem l8 : ∀ l : List Int, l.length = 8 → V8.l ⟨rd l 0, rd l 1, rd l 2, rd l 3, rd l 4, rd l 5, rd l 6, rd l 7⟩ = l
  | [a, b, c, d, e, f, g, h], _ => rfl
theorem behV_l (v : V8) (b : List Int) : (behV v b).l = behI v b := l8 _ (behI_len v b)
noncomputable def foldB : Nat → V8 → List Int → V8
  | 0, v, _ => v
  | k + 1, v, M => foldB k (behV v (M.take 64)) (M.drop 64)
theorem foldB_app : ∀ (k : Nat) (v : V8) (M X : List Int), 64 * k ≤ M.length → foldB k v (M ++ X) = foldB k v M
  | 0, _, _, _, _ => rfl
  | k + 1, v, M, X, h => by
    rw [foldB, foldB, List.take_append_of_le_length (by omega), List.drop_append_of_le_length (by omega)]
    exact foldB_app k _ _ _ (by rw [List.length_drop]; omega)
theorem foldB_one : ∀ (k : Nat) (v : V8) (M : List Int), 64 * (k + 1) ≤ M.length → foldB (k + 1) v M = behV (foldB k v M) ((M.drop (64 * k)).take 64)
  | 0, v, M, _ => by rw [foldB, foldB, foldB]; simp
  | k + 1, v, M, h => by
    rw [foldB, foldB_one k _ _ (by rw [List.length_drop]; omega), foldB, List.drop_drop]
    rw [show 64 * (k + 1) = 64 + 64 * k by omega]
def H0 : V8 := ⟨1779033703, 3144134277, 1013904242, 2773480762, 1359893119, 2600822924, 528734635, 1541459225⟩
/-- what a digest holds, that was given these bytes -/
structure DigI (v : V8) (p : List Int) (M : List Int) : Prop where
  len : p.length = 64
  st : v = foldB (M.length / 64) H0 M
  part : p.take (M.length % 64) = M.drop (64 * (M.length / 64))
theorem DigI.step {v : V8} {p M q : List Int} (h : DigI v p M) (hq : M.length % 64 + q.length ≤ 64) (hq1 : 0 < q.length) :
    DigI (if (M.length + q.length) % 64 = 0 then behV v (splice p (M.length % 64) q) else v) (splice p (M.length % 64) q) (M ++ q) := by
  have hl := h.len
  have hsl : (splice p (M.length % 64) q).length = 64 := by rw [length_splice _ _ _ (by omega)]; exact hl
  have htk : (splice p (M.length % 64) q).take (M.length % 64 + q.length) = M.drop (64 * (M.length / 64)) ++ q := by
    unfold splice
    rw [← List.append_assoc, List.take_left' (by simp; omega), h.part]
  by_cases hz : (M.length + q.length) % 64 = 0
  · rw [if_pos hz]
    · have e1 : M.length % 64 + q.length = 64 := by omega
      have e2 : (M ++ q).length / 64 = M.length / 64 + 1 := by rw [List.length_append]; omega
      refine ⟨hsl, ?_, ?_⟩
      · rw [e2, foldB_one _ _ _ (by rw [List.length_append]; omega), foldB_app _ _ _ _ (by omega), ← h.st]
        congr 1
        rw [List.drop_append_of_le_length (by omega), ← htk, e1, List.take_of_length_le (by rw [List.length_take]; omega), List.take_of_length_le (by omega)]
      · rw [show (M ++ q).length % 64 = 0 by rw [List.length_append]; omega, e2]
        rw [List.take_zero, List.drop_eq_nil_of_le (by rw [List.length_append]; omega)]
  · rw [if_neg hz]
    have e2 : (M ++ q).length / 64 = M.length / 64 := by rw [List.length_append]; omega
    have e3 : (M ++ q).length % 64 = M.length % 64 + q.length := by rw [List.length_append]; omega
    refine ⟨hsl, ?_, ?_⟩
    · rw [e2, foldB_app _ _ _ _ (by omega)]; exact h.st
    · rw [e3, e2, htk, List.drop_append_of_le_length (by omega)]
set_option maxHeartbeats 8000000 in
set_option maxRecDepth 100000 in
theorem c_absent (g : Nat) (m : Bool) (w : World) (hc : w.cell? ⟨g, 0, none⟩ = some (.bool m)) : Calls Try.prog 31 #[.pointer (some ⟨g, 0, none⟩)] w fun e w' => e = .returned (.bool (!m)) ∧ w' = w := by
  go_enter Try.func31, Try.ntmps31
  go_wp2
  go_ret
  exact ⟨rfl, rfl⟩
set_option maxHeartbeats 8000000 in
set_option maxRecDepth 100000 in
theorem c_absent_nil (w : World) : Calls Try.prog 31 #[.pointer none] w fun e w' => e = .returned (.bool true) ∧ w' = w := by
  go_enter Try.func31, Try.ntmps31
  go_wp2
  go_ret
  exact ⟨rfl, rfl⟩
theorem one_mem {l : List Int} (x : Value) (hx : x ∈ u32s l) : x.oneCell' = true := by
  obtain ⟨y, _, rfl⟩ := List.mem_map.1 hx
  rfl
theorem cell_in {w : World} {g : Nat} {cs : List Value} {t : TypeId} (hg : w.heap[g]? = some (.cells cs.toArray t (0, 0))) (j : Nat) {x : Value} (hx : cs[j]? = some x) : w.cell? ⟨g, j, none⟩ = some x := by
  rw [cell_of_row w g _ _ _ _ hg]; simpa using hx
set_option maxHeartbeats 8000000 in
set_option maxRecDepth 100000 in
theorem c_write {w0 w : World} {Rs : List Res} (HP : Hp w0 w Rs) (i g : Nat) (v : V8) (p M b : List Int) (hi : Rs[i]? = some (.blk g (.cells (dc true v p (M.length : Int)).toArray 52 (0, 0)))) (hd : DigI v p M) (A : Option Addr) (c : Nat) (hc : b.length ≤ c) (hm : M.length + b.length ≤ 1000000000000000)
    (hb : ∀ (w' : World) (v : V8) (p : List Int) (n : Int), Hp w0 w' (Rs.set i (.blk g (.cells (dc true v p n).toArray 52 (0, 0)))) → Kd.C (Kd.int .u8) w' A b.length b) :
    Calls Try.prog 20 #[.pointer (some ⟨g, 0, none⟩), .slice A b.length c] w fun e w' => e = .returned (.tuple #[]) ∧ ∃ v' p', DigI v' p' (M ++ b) ∧ Hp w0 w' (Rs.set i (.blk g (.cells (dc true v' p' ((M ++ b).length : Int)).toArray 52 (0, 0)))) := by
  have hmade := dc_c0 (HP.blk i hi)
  have HP1 := Aside0.mk (show Hp w0 w (Rs.set i (.blk g (.cells (dc true v p (((M ++ ([] : List Int)).length : Nat) : Int)).toArray 52 (0, 0)))) from by rw [List.append_nil, set_self hi]; exact HP)
  have HC := Aside0.mk hc
  have HM := Aside0.mk hm
  have HB := Aside0.mk hb
  have HD := Aside0.mk (show DigI v p (M ++ []) by rw [List.append_nil]; exact hd)
  have hlt : i < Rs.length := (List.getElem?_eq_some_iff.1 hi).1
  have HI := Aside0.mk hlt
  clear HP hc hm hb hd hi hlt
  go_enter Try.func20, Try.ntmps20
  go_wp2_with fail
  refine (c_absent g true w hmade).mono ?_
  rintro e w_ ⟨rfl, rfl⟩
  go_wp2
  go_loopg [1, 4] b.length (fun kq v1 v4 w' => ∃ (b2 done : List Int) (A2 : Option Addr) (c2 : Nat) (v : V8) (p : List Int), v1 = .slice A2 b2.length c2 ∧ Aside0 (b = done ++ b2) ∧ Aside0 (kq = b2.length) ∧ Aside0 (b2.length ≤ c2) ∧ Aside0 (∀ (w' : World) (v : V8) (p : List Int) (n : Int), Hp w0 w' (Rs.set i (.blk g (.cells (dc true v p n).toArray 52 (0, 0)))) → Kd.C (Kd.int .u8) w' A2 b2.length b2) ∧ Aside0 (DigI v p (M ++ done)) ∧ Aside0 (Hp w0 w' (Rs.set i (.blk g (.cells (dc true v p ((M ++ done).length : Int)).toArray 52 (0, 0))))))
  case atStart => exact ⟨b, [], A, c, v, p, rfl, ⟨rfl⟩, ⟨rfl⟩, HC, HB, HD, HP1⟩
  clear HP1 HD HC HB hmade
  obtain ⟨b2, done, A2, c2, v, p, rfl, HE, HK, HC, HB, HD, HP⟩ := hrel
  by_cases hz : 0 < b2.length
  · have d1 : decide (0 < b2.length) = true := decide_eq_true hz
    have d1i : decide ((0 : Int) < (b2.length : Int)) = true := decide_eq_true (by omega)
    obtain ⟨L, hL⟩ : ∃ L, (M ++ done).length = L := ⟨_, rfl⟩
    rw [hL] at HP
    obtain ⟨r, hr⟩ : ∃ r : Int, (L : Int) % 64 = r := ⟨_, rfl⟩
    have hLM : L + b2.length ≤ 1000000000000000 := by have h1 := HM.out; have h2 := congrArg List.length HE.out; rw [List.length_append] at h2; rw [List.length_append] at hL; omega
    have er : Int.tmod (L : Int) 64 = r := by rw [Int.tmod_eq_emod_of_nonneg (by omega)]; exact hr
    obtain ⟨wd, hwd⟩ : ∃ z_ : World, wr.drew = z_ := ⟨_, rfl⟩
    have HPd := Aside0.mk (HP.out.drewN 1)
    rw [← World.drew_is_drewN, hwd] at HPd
    have hset : ∀ R, (Rs.set i R)[i]? = some R := fun R => by rw [List.getElem?_set]; simp [HI.out]
    have hc73 := dc_c73 HD.out.len (HPd.out.blk i (hset _))
    have h0r : 0 ≤ r := by omega
    have h1r : r < 64 := by omega
    have hcut := run_cut_arr (P := Try.prog) Try.underlying50 (by kernel_rfl) g 9 r h0r h1r wd
    obtain ⟨q, hq⟩ : ∃ q, b2.take (64 - r.toNat) = q := ⟨_, rfl⟩
    have hdr : b2.drop q.length = b2.drop (64 - r.toNat) := by
      rw [← hq, List.length_take]
      rcases Nat.le_total (64 - r.toNat) b2.length with h | h
      · rw [Nat.min_eq_left h]
      · rw [Nat.min_eq_right h, List.drop_eq_nil_of_le (Nat.le_refl _), List.drop_eq_nil_of_le h]
    have hb2 : b2 = q ++ b2.drop q.length := by rw [hdr, ← hq]; exact (List.take_append_drop _ _).symm
    have hql : q.length = min (64 - r.toNat) b2.length := by rw [← hq, List.length_take]
    have hqr : r.toNat + q.length ≤ 64 := by omega
    have hdcl := dc_len true v p (L : Int) HD.out.len
    obtain ⟨kk, hkk⟩ : ∃ kk, q.length = kk := ⟨_, rfl⟩
    obtain ⟨L2, hL2⟩ : ∃ L2, (L : Int) + (kk : Int) = L2 := ⟨_, rfl⟩
    have eL2 := i64k hL2 (by omega)
    obtain ⟨r2, hr2⟩ : ∃ r2 : Int, L2 % 64 = r2 := ⟨_, rfl⟩
    have er2 : Int.tmod L2 64 = r2 := by rw [Int.tmod_eq_emod_of_nonneg (by omega)]; exact hr2
    have hk0 : (0 : Int) ≤ (kk : Int) := by omega
    have hk1 : (kk : Int) ≤ (b2.length : Int) := by omega
    obtain ⟨i5, hi5, _, hsz5, _⟩ := info_parts info5
    have hcutb := cut_from (P := Try.prog) 32 5 .i64 Try.underlying32 hi5 1 hsz5 A2 b2.length c2 (kk : Int) hk0 hk1
    rw [Int.toNat_natCast] at hcutb
    obtain ⟨A3, hA3⟩ : ∃ A3, (if c2 = kk then A2 else A2.map (·.add (kk * 1))) = A3 := ⟨_, rfl⟩
    rw [hA3] at hcutb
    have hlen3 : (b2.drop kk).length = b2.length - kk := List.length_drop ..
    rw [← hlen3] at hcutb
    obtain ⟨c3, hc3⟩ : ∃ c3, c2 - kk = c3 := ⟨_, rfl⟩
    rw [hc3] at hcutb
    have HDN := Aside0.mk (HD.out.step (q := q) (by rw [hL]; omega) (by omega))
    rw [hL, show L % 64 = r.toNat by omega, hkk] at HDN
    have hrz : (L + kk) % 64 = 0 ↔ r2 = 0 := by omega
    have HLN : (M ++ (done ++ q)).length = L + kk := by rw [← List.append_assoc, List.length_append, hL, hkk]
    have HEN : b = (done ++ q) ++ b2.drop kk := by rw [List.append_assoc, ← hkk, ← hb2]; exact HE.out
    have HBN := Aside0.mk (fun (w' : World) (v : V8) (p : List Int) (n : Int) (hp : Hp w0 w' (Rs.set i (.blk g (.cells (dc true v p n).toArray 52 (0, 0))))) => (show Kd.C (Kd.int .u8) w' A3 (b2.drop kk).length (b2.drop kk) from by
      rw [← hA3]; exact Kd.C_drop (m := kk) (c := c2) (HB.out w' v p n hp) (by omega) HC.out))
    have HCN := Aside0.mk (show (b2.drop kk).length ≤ c3 by rw [hlen3, ← hc3]; have := HC.out; omega)
    have HX := Aside0.mk (And.intro hrz (And.intro HLN (And.intro HEN (And.intro hL2 (And.intro hq (And.intro hkk (And.intro hlen3 (And.intro hqr hL))))))))
    have hp2 : (splice p r.toNat q).length = 64 := by rw [length_splice _ _ _ (by rw [HD.out.len]; exact hqr)]; exact HD.out.len
    have HH := Aside0.mk (And.intro h0r (And.intro h1r (And.intro hk0 hk1)))
    have HFIT : 9 + r.toNat + (u8s (b2.take (64 - r.toNat))).length ≤ (dc true v p (L : Int)).length := by rw [u8s_len, hq, hkk, hdcl]; omega
    have HLQ : (u8s (b2.take (64 - r.toNat))).length = kk := by rw [u8s_len, hq, hkk]
    have HF := Aside0.mk (And.intro HFIT HLQ)
    have HP2L := Aside0.mk hp2
    have HSP : splice (dc true v p (L : Int)) (9 + r.toNat) (u8s q) = dc true v (splice p r.toNat q) (L : Int) := dc_p _ _ _ _ _ _ HD.out.len hqr
    have HSQ := Aside0.mk HSP
    have HQ0 := Aside0.mk (show 0 < kk by omega)
    clear hr hrz HLN HEN hL2 hq hkk hlen3 hqr hL hr2 hc3 hA3 hql hb2 hdr hdcl hLM hp2 HFIT HLQ HSP
    go_wp2
    refine still_tail 10 (by kernel_rfl) (by kernel_rfl) hwd ?_
    simp only [List.take_succ_cons, List.take_zero, List.drop_succ_cons, List.drop_zero]
    repeat still_step
    refine wpStill_nil ?_
    refine ev_copy HPd.out i (hset _) rfl (.tmp 18) (.tmp 19) 32 32 rfl 5 Try.underlying32 (by kernel_rfl) (64 - r.toNat) (64 - r.toNat) rfl rfl rfl (HB.out wd v p L HPd.out) rfl HF.out.1 HF.out.2 ?_
    intro w1 HPn
    rw [List.set_set, show (List.take (64 - r.toNat) b2).map (Value.int .u8) = u8s q from by rw [HX.out.2.2.2.2.1]; rfl, HSQ.out] at HPn
    clear hc73
    have hc73 := dc_c73 HP2L.out (HPn.blk i (hset _))
    have hf73 := frozC (HPn.blk i (hset _)) 73
    obtain ⟨w2, hw2⟩ : ∃ w2, w1.setCell ⟨g, 73, none⟩ (.int .i64 L2) = w2 := ⟨_, rfl⟩
    have HPm := Aside0.mk (HPn.setCell i (hset _) 73 (.int .i64 L2))
    rw [List.set_set, dc_n _ _ _ _ _ HP2L.out, hw2] at HPm
    have hd73 := dc_c73 HP2L.out (HPm.out.blk i (hset _))
    by_cases hz2 : r2 = 0
    · subst hz2
      go_wp2
      obtain ⟨we, hwe⟩ : ∃ z_ : World, w2.drew = z_ := ⟨_, rfl⟩
      have HPe := Aside0.mk (HPm.out.drewN 1)
      rw [← World.drew_is_drewN, hwe] at HPe
      obtain ⟨p2, hp2⟩ : ∃ p2, splice p r.toNat q = p2 := ⟨_, rfl⟩
      rw [hp2] at HPe HDN HP2L
      have hq0 : we.cell? ⟨g, 1, none⟩ = some (.int .u32 v.a) := cell_in (HPe.out.blk i (hset _)) 1 rfl
      have hq1 : we.cell? ⟨g, 2, none⟩ = some (.int .u32 v.b) := cell_in (HPe.out.blk i (hset _)) 2 rfl
      have hq2 : we.cell? ⟨g, 3, none⟩ = some (.int .u32 v.c) := cell_in (HPe.out.blk i (hset _)) 3 rfl
      have hq3 : we.cell? ⟨g, 4, none⟩ = some (.int .u32 v.d) := cell_in (HPe.out.blk i (hset _)) 4 rfl
      have hq4 : we.cell? ⟨g, 5, none⟩ = some (.int .u32 v.e) := cell_in (HPe.out.blk i (hset _)) 5 rfl
      have hq5 : we.cell? ⟨g, 6, none⟩ = some (.int .u32 v.f) := cell_in (HPe.out.blk i (hset _)) 6 rfl
      have hq6 : we.cell? ⟨g, 7, none⟩ = some (.int .u32 v.g) := cell_in (HPe.out.blk i (hset _)) 7 rfl
      have hq7 : we.cell? ⟨g, 8, none⟩ = some (.int .u32 v.h) := cell_in (HPe.out.blk i (hset _)) 8 rfl
      have hcut2 := run_cut_all (P := Try.prog) Try.underlying50 (by kernel_rfl) (by decide) g 9 we
      have CB := c_beh v.a v.b v.c v.d v.e v.f v.g v.h p2 HP2L.out (some ⟨g, 9, none⟩) 64 we (dc_rp HP2L.out (HPe.out.blk i (hset _))) (by rw [HP2L.out]; exact Nat.le_refl _)
      rw [HP2L.out] at CB
      have CBA := Aside0.mk CB
      have HP2M := Aside0.mk hp2
      clear CB hc73 hf73 hd73 hp2
      refine still_mix 9 [9, 10, 11, 12] (by kernel_rfl) (by kernel_rfl) hwe (fun N _ _ _ _ h => by cases N <;> exact h) ?_
      simp only [List.take_succ_cons, List.take_zero, List.drop_succ_cons, List.drop_zero]
      repeat (refine wpVal_step (fun K hK => ?_); go_simp; refine hK _ ?_; clear hK K)
      refine wpVal_nil ?_
      go_wp2_with (first | (go_at_call 32; refine CBA.out.mono ?_; rintro e w4 ⟨rfl, hb4⟩; have HPf := Aside0.mk (HPe.out.call hb4); clear hb4) | ((with_reducible refine gate_store (t := 49) (p := 49) rfl ?_); refine ev_store_mid HPf.out i (hset _) rfl rfl 49 (.tmp 49) (.tmp 47) rfl rfl (cs := u32s (behV v p2).l) (by rw [behV_l]; rfl) (by rw [u32s_len, behV_l, behI_len, dc_len _ _ _ _ HP2L.out]; decide) (by rw [u32s_len, behV_l, behI_len]; kernel_rfl) (fun x hx => one_mem x hx) ?_; intro w5 hpg; have HPg := Aside0.mk hpg; clear hpg))
      rw [List.set_set, dc_s] at HPg
      rw [if_pos (HX.out.1.2 (by trivial))] at HDN
      rw [show L2 = (((M ++ (done ++ q)).length : Nat) : Int) from by rw [HX.out.2.1, ← HX.out.2.2.2.1]; omega] at HPg
      rw [List.append_assoc] at HDN
      go_roundg (b2.drop kk).length
      case measure => have := HK.out; have := HX.out.2.2.2.2.2.2.1; have := HQ0.out; omega
      case rel => exact ⟨b2.drop kk, done ++ q, A3, c3, _, _, by rw [HX.out.2.2.2.2.2.2.1], ⟨HX.out.2.2.1⟩, ⟨rfl⟩, HCN, HBN, HDN, HPg⟩
    · have d2 : decide (r2 = 0) = false := decide_eq_false hz2
      go_wp2
      rw [if_neg (fun h => hz2 (HX.out.1.1 h)), List.append_assoc] at HDN
      rw [show L2 = (((M ++ (done ++ q)).length : Nat) : Int) from by rw [HX.out.2.1, ← HX.out.2.2.2.1]; omega] at HPm
      go_roundg (b2.drop kk).length
      case measure => have := HK.out; have := HX.out.2.2.2.2.2.2.1; have := HQ0.out; omega
      case rel => exact ⟨b2.drop kk, done ++ q, A3, c3, _, _, by rw [HX.out.2.2.2.2.2.2.1], ⟨HX.out.2.2.1⟩, ⟨rfl⟩, HCN, HBN, HDN, HPm⟩
  · obtain rfl : b2 = [] := List.eq_nil_of_length_eq_zero (by omega)
    have HE2 := Aside0.mk (show b = done from by have := HE.out; rw [List.append_nil] at this; exact this)
    clear HE
    go_wp2
    exact bodyPost_end (v := .tuple #[]) (by simp [results, Try.results20, go_sem]) rfl ⟨rfl, v, p, by rw [HE2.out]; exact HD.out, by rw [HE2.out]; exact HP.out⟩
end Go.Proofs.Ytpnjbogpooejhaa.H
