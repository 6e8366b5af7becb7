import Derived.Test.YtgippbgcmmjnbaaCt5
import Derived.Test.YtgippbgcmmjnbaaTh2
namespace Go.Proofs.Ytgippbgcmmjnbaa.Ct
open Go.RowKit Go.Proofs.Ytgippbgcmmjnbaa.XB Go.Proofs.Ytgippbgcmmjnbaa.Th Go.Proofs.YtgippbgcmmjnbaaW.PrintWords Go.Proofs.YtgippbgcmmjnbaaW.PrintLast Go.Proofs.YtgippbgcmmjnbaaXe Go.Proofs.YtgippbgcmmjnbaaXs
set_option linter.unusedVariables false
set_option linter.unusedSimpArgs false
attribute [local go_sem ↓ high] ld27
attribute [local go_sem ↓ high] bs22
attribute [local go_sem high] BS22.run

attribute [local go_sem high] eq27_same
theorem sp_perm {b : Nat} {w : World} {Rs Rs' : List Res} (p : Rs.Perm Rs') : ∀ {G : Nat → Prop}, Sp b w Rs G → ∃ G', Sp b w Rs' G' ∧ ∀ k, G' k ↔ G k := by
  induction p with
  | nil => intro G h; exact ⟨G, h, fun k => Iff.rfl⟩
  | cons x _ ih =>
    intro G h
    cases h with
    | cons h1 h2 h3 h4 =>
      obtain ⟨G', h5, h6⟩ := ih h3
      exact ⟨_, .cons h1 h2 h5 (fun k hk hg => h4 k hk ((h6 k).1 hg)), fun k => or_congr Iff.rfl (h6 k)⟩
  | swap x y l =>
    intro G h
    cases h with
    | cons h1 h2 h3 h4 =>
      cases h3 with
      | cons h5 h6 h7 h8 =>
        exact ⟨_, .cons h5 h6 (.cons h1 h2 h7 fun k hk hg => h4 k hk (.inr hg)) (fun k hk hg => hg.elim (fun hg => h4 k hg (.inl hk)) (h8 k hk)), fun k => ⟨fun h => by rcases h with h | h | h <;> simp [h], fun h => by rcases h with h | h | h <;> simp [h]⟩⟩
  | trans _ _ ih1 ih2 =>
    intro G h
    obtain ⟨G1, h1, e1⟩ := ih1 h
    obtain ⟨G2, h2, e2⟩ := ih2 h1
    exact ⟨G2, h2, fun k => (e2 k).trans (e1 k)⟩
theorem hp_perm {w0 w : World} {Rs Rs' : List Res} (h : Hp w0 w Rs) (p : Rs.Perm Rs') : Hp w0 w Rs' := by
  obtain ⟨hb, G, hs⟩ := h
  obtain ⟨G', h2, _⟩ := sp_perm p hs
  exact ⟨hb, G', h2⟩
/-- the last one comes first -/
theorem hp_last {w0 w : World} (A : List Res) (x : Res) (h : Hp w0 w (A ++ [x])) : Hp w0 w (x :: A) := hp_perm h (List.perm_append_comm (l₁ := A) (l₂ := [x]))
def id7 : S25 := ⟨7, 0, 0, 0, 0, 0, 0, 0, 0, 0, 0, 0, 0, 0, 0, 0, 0, 0, 0, 0, 0, 0, 0, 0, 0, 0, 0, 0, 0, 0, 0, 0⟩
theorem rd_mem {l : List Int} {i : Nat} (h : i < l.length) : rd l i = l[i] := by simp [rd, h]
/-- one more of those that are missing is put -/
theorem put_step {q kl : List S27} {n : Int} {p : List Int} {i : Nat} (hn : n ≤ 500) (hp : p = check_Missing.keep q (placesS n)) (hk : okL n 0 kl = true) (hh : ∀ a, check_Missing.hasB kl a = (check_Missing.hasB q a || (p.take i).contains a)) (hi : i < p.length) :
    ∃ kl', putS kl ⟨rd p i, id7⟩ = (kl', 0) ∧ kl'.length = kl.length + 1 ∧ okL n 0 kl' = true ∧ ∀ a, check_Missing.hasB kl' a = (check_Missing.hasB q a || (p.take (i + 1)).contains a) := by
  have hm : p[i] ∈ p := List.getElem_mem hi
  have hm2 : ∀ a, a ∈ p → a ∈ check_Missing.keep q (placesS n) := fun a ha => by rw [← hp]; exact ha
  replace hm2 := hm2 _ hm
  unfold check_Missing.keep at hm2
  rw [List.mem_filter] at hm2
  have hq : check_Missing.hasB q p[i] = false := by simpa using hm2.2
  have hasc : Asc p := by rw [hp]; exact asc_filter (asc_places n) _
  have hnot : (p.take i).contains p[i] = false := by
    cases hc : (p.take i).contains p[i] with
    | false => rfl
    | true =>
      rw [List.contains_iff_mem] at hc
      obtain ⟨j, hj, he⟩ := List.getElem_of_mem hc
      rw [List.length_take] at hj
      rw [List.getElem_take] at he
      have := List.pairwise_iff_getElem.1 hasc j i (by omega) hi (by omega)
      omega
  obtain ⟨kl', h1, h2, h3, h4⟩ := okL_put (m := ⟨rd p i, id7⟩) hk hn (by show plB (rd p i) n = true; rw [rd_mem hi]; exact (mem_places.1 hm2.1).1) (by show check_Missing.hasB kl (rd p i) = false; rw [rd_mem hi, hh, hq, hnot]; rfl)
  refine ⟨kl', h1, h2, h3, fun a => ?_⟩
  have e : (p.take i ++ [p[i]]).contains a = ((p.take i).contains a || a == p[i]) := by rw [Bool.eq_iff_iff, Bool.or_eq_true, List.contains_iff_mem, List.contains_iff_mem, List.mem_append, List.mem_singleton, beq_iff_eq]
  rw [h4, hh, List.take_succ_eq_append_getElem hi, e]
  show (check_Missing.hasB q a || (p.take i).contains a || (a == rd p i)) = _
  rw [rd_mem hi, Bool.or_assoc]
/-- all are there then -/
theorem all_there {q kl : List S27} {n : Int} {p : List Int} (hn : n ≤ 500) (hp : p = check_Missing.keep q (placesS n)) (hk : okL n 0 kl = true) (hh : ∀ a, check_Missing.hasB kl a = (check_Missing.hasB q a || p.contains a)) : kl.map (·.f0) = placesS n ∧ missS kl n = [] := by
  have hall : ∀ a ∈ placesS n, check_Missing.hasB kl a = true := fun a ha => by
    rw [hh]
    cases hq : check_Missing.hasB q a with
    | true => rfl
    | false =>
      have : a ∈ p := by rw [hp]; unfold check_Missing.keep; rw [List.mem_filter]; exact ⟨ha, by rw [hq]; rfl⟩
      simpa using this
  refine ⟨all_places hk hn hall, ?_⟩
  unfold missS check_Missing.keep
  rw [if_pos (okL_le hk hn), List.filter_eq_nil_iff]
  intro a ha
  rw [hall a ha]; simp
set_option maxHeartbeats 8000000 in
set_option maxRecDepth 100000 in
theorem checkAll_law (A : Option Addr) (c : Nat) (l : List S27) (w : World) (hr : Kd.C k27 w A l.length l) (hc : l.length ≤ c) (hm : l.length ≤ maxLen) (n a : Int) :
    Calls Try.prog 6 #[.slice A l.length c, .int .i64 n, .int .i64 a] w fun e w' => e = .returned (.bool true) ∧ Below w.heap.size w w' := by
  have HR := Aside0.mk hr
  have HC := Aside0.mk hc
  have hlm : l.length ≤ 9223372036854775807 := hr.2.1
  have HP := Aside0.mk (Hp.start w)
  clear hr hc hm
  by_cases h80 : l.length > 80
  · have hd : decide ((80 : Int) < (l.length : Int)) = true := decide_eq_true (by omega)
    go_enter Try.func6, Try.ntmps6
    go_wp2_with fail
    (with_reducible refine (c_awake _).mono ?_); rintro e wn1 ⟨rfl, hb⟩; have HPn := Aside0.mk (HP.out.call hb); clear HP; have HP := HPn; clear HPn; clear hb
    go_wp2_with fail
    go_ret
    exact ⟨rfl, HP.out.below⟩
  · have hd : decide ((80 : Int) < (l.length : Int)) = false := decide_eq_false (by omega)
    have HL := Aside0.mk (show l.length ≤ 1000000 by omega)
    obtain ⟨r, hr⟩ : ∃ r, mayS l n = r := ⟨_, rfl⟩
    have HMR := Aside0.mk hr
    by_cases hr0 : r = 0
    · subst hr0
      obtain ⟨⟨hn0, hn5⟩, hok⟩ := mayS_zero.1 hr
      have hok5 := okL_le hok hn5
      obtain ⟨q, hq⟩ : ∃ q, keptS l a = q := ⟨_, rfl⟩
      have hqo : okL n 0 q = true := by rw [← hq, keptS_eq hok5]; exact okL_filter hok _
      have hqo5 := okL_le hqo hn5
      obtain ⟨p, hp⟩ : ∃ p, missS q n = p := ⟨_, rfl⟩
      have hpk : p = check_Missing.keep q (placesS n) := by rw [← hp]; unfold missS; rw [if_pos hqo5]
      have hlen := keep_len hqo hn5
      rw [← hpk] at hlen
      obtain ⟨pl, hpl⟩ : ∃ pl, placesS n = pl := ⟨_, rfl⟩
      have hq80 : q.length ≤ 80 := by have := keptS_len l a; rw [hq] at this; omega
      have hp63 : p.length ≤ 63 := by have := missS_len q n; rw [hp] at this; omega
      rw [hpl] at hlen
      have hsum : ((q.length : Int) + (p.length : Int) != (pl.length : Int)) = false := by rw [bne_eq_false_iff_eq]; omega
      have HLq := Aside0.mk (show q.length ≤ 1000000 by omega)
      have HQ := Aside0.mk hq
      have HMP := Aside0.mk hp
      have HPL := Aside0.mk hpl
      have HMQ := Aside0.mk (mayS_zero.2 ⟨⟨hn0, hn5⟩, hqo⟩)
      have HPK := Aside0.mk hpk
      have HLEN := Aside0.mk hlen
      have HQO := Aside0.mk hqo
      have HN := Aside0.mk (And.intro hn0 hn5)
      clear hq hp hok hok5 hr hqo hqo5 hpk hpl hlen h80 hn0 hn5
      go_enter Try.func6, Try.ntmps6
      go_wp2_with fail
      (with_reducible refine (c_awake _).mono ?_); rintro e wn1 ⟨rfl, hb⟩; have HPn := Aside0.mk (HP.out.call hb); clear HP; have HP := HPn; clear HPn; clear hb
      go_wp2_with fail
      (with_reducible refine (c_may' _ c l _ (Kd.C_below HR.out HP.out.below) HC.out n 0 HMR.out).mono ?_); rintro e wn2 ⟨rfl, hb⟩; have HPn := Aside0.mk (HP.out.call hb); clear HP; have HP := HPn; clear HPn; clear hb
      go_wp2_with fail
      (with_reducible refine (c_kept' _ c l _ (Kd.C_below HR.out HP.out.below) HC.out HL.out a q HQ.out).mono ?_); rintro e wn3 ⟨v, rfl, ho, hb⟩; have HPn := Aside0.mk (HP.out.newR hb ho); clear HP; have HP := HPn; clear HPn; obtain ⟨A_kk, c_kk, rfl⟩ := Kd.R_slice (HP.out.row 0 rfl); clear hb ho
      go_wp2_with fail
      (with_reducible refine (c_miss' _ _ q _ (Kd.R_reads' (HP.out.row 0 rfl)).2.2 (Kd.R_reads' (HP.out.row 0 rfl)).2.1 n p HMP.out).mono ?_); rintro e wn4 ⟨v, rfl, ho, hb⟩; have HPn := Aside0.mk (HP.out.newR hb ho); clear HP; have HP := HPn; clear HPn; obtain ⟨A_ms, c_ms, rfl⟩ := Kd.R_slice (HP.out.row 0 rfl); clear hb ho
      go_wp2_with fail
      (with_reducible refine (c_places' n pl _ HPL.out).mono ?_); rintro e wn5 ⟨v, rfl, ho, hb⟩; have HPn := Aside0.mk (HP.out.newR hb ho); clear HP; have HP := HPn; clear HPn; obtain ⟨A_pp, c_pp, rfl⟩ := Kd.R_slice (HP.out.row 0 rfl); clear hb ho
      go_wp2_with fail
      (with_reducible refine (c_may' _ _ q _ (Kd.R_reads' (HP.out.row 2 rfl)).2.2 (Kd.R_reads' (HP.out.row 2 rfl)).2.1 n 0 HMQ.out).mono ?_); rintro e wn6 ⟨rfl, hb⟩; have HPn := Aside0.mk (HP.out.call hb); clear HP; have HP := HPn; clear HPn; clear hb
      go_wp2_with fail
      have HP1 := Aside0.mk (hp_last [_, _] _ HP.out)
      have HP2 := Aside0.mk (show okL n 0 q = true ∧ (∀ a, check_Missing.hasB q a = (check_Missing.hasB q a || (p.take 0).contains a)) from ⟨HQO.out, fun a => by simp⟩)
      obtain ⟨vk, hvk⟩ : ∃ v, Value.slice A_kk q.length c_kk = v := ⟨_, rfl⟩
      rw [hvk] at HP1
      clear HP
      rw [hvk]
      go_loopg [8, 11, 12, 13] p.length (fun kq v8 v11 v12 v13 w' => ∃ (i : Nat) (kl : List S27), v11 = .int .i64 i ∧ i ≤ p.length ∧ Aside0 (kl.length = q.length + i) ∧ Aside0 (kq + i = p.length) ∧ Aside0 (okL n 0 kl = true ∧ ∀ a, check_Missing.hasB kl a = (check_Missing.hasB q a || (p.take i).contains a)) ∧ Aside0 (Hp w w' [.row k27 27 w.heap.size v8 kl, .row (Kd.int .i64) 3 w.heap.size (.slice A_pp pl.length c_pp) pl, .row (Kd.int .i64) 3 w.heap.size (.slice A_ms p.length c_ms) p]))
      case atStart => exact ⟨0, q, rfl, by omega, ⟨rfl⟩, ⟨by omega⟩, HP2, HP1⟩
      case round =>
        clear HP1 HP2 hvk
        obtain ⟨i, kl, rfl, h1, h2, HK, HA, HP⟩ := hrel
        obtain ⟨Ak, ck, rfl⟩ := Kd.R_slice (HP.out.row 0 rfl)
        by_cases c1 : i < p.length
        · have c1i : (i : Int) < (p.length : Int) := by omega
          have h0 : (0 : Int) ≤ (i : Int) := by omega
          have hd1 : decide (i < p.length) = true := decide_eq_true c1
          obtain ⟨ad, ea, hx⟩ := Kd.at_int (Kd.R_reads' (HP.out.row 2 rfl)).2.2 (i : Int) h0 c1i
          subst ea
          rw [Int.toNat_natCast] at hx
          obtain ⟨kl', hput, hl', hok', hh'⟩ := put_step HN.out.2 HPK.out HA.out.1 HA.out.2 c1
          have HPUT := Aside0.mk hput
          have HA' := Aside0.mk (And.intro hok' hh')
          have hlk : kl.length ≤ 1000000 := by have := h2.out; omega
          have hln : ((kl'.length : Int) != (kl.length : Int) + 1) = false := by rw [bne_eq_false_iff_eq]; omega
          have HLL := Aside0.mk hl'
          clear hput hok' hh' hl'
          go_wp2_with fail
          refine (c_put' _ _ kl _ (Kd.R_reads' (HP.out.row 0 rfl)).2.2 (Kd.R_reads' (HP.out.row 0 rfl)).2.1 hlk ⟨rd p i, id7⟩ kl' 0 HPUT.out).mono ?_
          rintro e w7 ⟨v7, rfl, ho, hb⟩
          have HPn := Aside0.mk (hp_last [_, _, _] _ (hp_perm (HP.out.newR hb ho) (List.Perm.cons _ (List.perm_append_comm (l₁ := [_]) (l₂ := [_, _]))))).drop1
          clear HP
          have HP := HPn
          clear HPn ho hb
          obtain ⟨A7, c7, rfl⟩ := Kd.R_slice (HP.out.row 0 rfl)
          go_wp2
          go_roundg (gk - 1)
          case measure => have := HK.out; omega
          case rel => exact ⟨i + 1, kl', by simp, by omega, ⟨by have := h2.out; have := HLL.out; omega⟩, ⟨by have := HK.out; omega⟩, HA', HP⟩
        · have hd1 : decide (i < p.length) = false := decide_eq_false c1
          have hip : i = p.length := by omega
          obtain ⟨hmap, hms⟩ := all_there HN.out.2 HPK.out HA.out.1 (fun a => by have := HA.out.2 a; rw [hip, List.take_length] at this; exact this)
          have HMAP := Aside0.mk (hmap.trans HPL.out)
          have HMS := Aside0.mk hms
          have HMK := Aside0.mk (mayS_zero.2 ⟨HN.out, HA.out.1⟩)
          have hkp : kl.length = pl.length := by have := congrArg List.length HMAP.out; simpa using this
          have HKP := Aside0.mk hkp
          have HLK := Aside0.mk (show kl.length ≤ 1000000 by have := h2.out; omega)
          have hlk2 : kl.length ≤ 9223372036854775807 := by have := HLK.out; omega
          clear hmap hms hip hkp h2 HA
          go_wp2
          go_loopg [14] kl.length (fun kq v14 w' => ∃ (j : Nat), v14 = .int .i64 j ∧ j ≤ kl.length ∧ Aside0 (kq + j = kl.length) ∧ Aside0 (Drawn0 wr w'))
          case atStart => exact ⟨0, rfl, by omega, ⟨by omega⟩, ⟨Drawn0.refl _⟩⟩
          case round =>
            obtain ⟨j, rfl, g1, HK2, HD⟩ := hrel
            have HPr := Aside0.mk (HP.out.call HD.out.below)
            by_cases c2 : j < kl.length
            · have c2i : (j : Int) < (kl.length : Int) := by omega
              have c2p : (j : Int) < (pl.length : Int) := by have := HKP.out; omega
              have h0 : (0 : Int) ≤ (j : Int) := by omega
              have e1 : decide (j < kl.length) = true := decide_eq_true c2
              have e2 : decide (pl.length ≤ j) = false := decide_eq_false (by have := HKP.out; omega)
              obtain ⟨ad, ea, hx, hld⟩ := ld_at (Kd.R_reads' (HPr.out.row 0 rfl)).2.2 (j : Int) h0 c2i
              subst ea
              obtain ⟨ad2, ea2, hx2⟩ := Kd.at_int (Kd.R_reads' (HPr.out.row 1 rfl)).2.2 (j : Int) h0 c2p
              subst ea2
              rw [Int.toNat_natCast] at hx hx2
              have hee : (rd_T27 kl j).f0 = rd pl j := by
                have q := congrArg (fun l => l[j]?) HMAP.out
                have hjp : j < pl.length := by omega
                simp only [List.getElem?_map, List.getElem?_eq_getElem c2, List.getElem?_eq_getElem hjp, Option.map_some, Option.some.injEq] at q
                simp [rd_T27, rd, c2, hjp, q]
              rw [hee] at hx
              clear hee hld
              go_wp2
              go_quiet (fail)
              go_wp2
              go_roundg (gk - 1)
              case measure => have := HK2.out; omega
              case rel => exact ⟨j + 1, by simp, by omega, ⟨by have := HK2.out; omega⟩, ⟨HD.out.step _⟩⟩
            · have e1 : decide (j < kl.length) = false := decide_eq_false c2
              clear HP
              have HP := HPr
              clear HPr
              go_wp2_with fail
              (with_reducible refine (c_miss' _ _ kl _ (Kd.R_reads' (HP.out.row 0 rfl)).2.2 (Kd.R_reads' (HP.out.row 0 rfl)).2.1 n [] HMS.out).mono ?_); rintro e w8 ⟨v8, rfl, ho, hb⟩
              obtain ⟨A8, c8, rfl⟩ := Kd.R_slice ho
              have HPn := Aside0.mk (HP.out.call hb)
              clear HP ho hb
              have HP := HPn
              clear HPn
              go_wp2_with fail
              (with_reducible refine (c_may' _ _ kl _ (Kd.R_reads' (HP.out.row 0 rfl)).2.2 (Kd.R_reads' (HP.out.row 0 rfl)).2.1 n 0 HMK.out).mono ?_); rintro e w9 ⟨rfl, hb⟩
              have HPn := Aside0.mk (HP.out.call hb)
              clear HP hb
              go_wp2
              go_ret
              exact ⟨rfl, HPn.out.below⟩
    · have hr1 : (r == 0) = false := beq_eq_false_iff_ne.2 hr0
      have hr2 : (r != 0) = true := bne_iff_ne.2 hr0
      clear hr
      go_enter Try.func6, Try.ntmps6
      go_wp2_with fail
      (with_reducible refine (c_awake _).mono ?_); rintro e wn1 ⟨rfl, hb⟩; have HPn := Aside0.mk (HP.out.call hb); clear HP; have HP := HPn; clear HPn; clear hb
      go_wp2_with fail
      (with_reducible refine (c_may' _ c l _ (Kd.C_below HR.out HP.out.below) HC.out n r HMR.out).mono ?_); rintro e wn2 ⟨rfl, hb⟩; have HPn := Aside0.mk (HP.out.call hb); clear HP; have HP := HPn; clear HPn; clear hb
      go_wp2_with fail
      go_ret
      exact ⟨rfl, HP.out.below⟩
end Go.Proofs.Ytgippbgcmmjnbaa.Ct
