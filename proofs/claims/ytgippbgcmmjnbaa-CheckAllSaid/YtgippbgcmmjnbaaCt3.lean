import Derived.Test.YtgippbgcmmjnbaaCt2
import Derived.Deep.RegionHeld3
import Derived.Deep.DrawnRows
namespace Go.Proofs.Ytgippbgcmmjnbaa.Ct
open Go.RowKit Go.Proofs.Ytgippbgcmmjnbaa.XB Go.Proofs.Ytgippbgcmmjnbaa.Th Go.Proofs.YtgippbgcmmjnbaaW.PrintWords Go.Proofs.YtgippbgcmmjnbaaW.PrintLast Go.Proofs.YtgippbgcmmjnbaaXe Go.Proofs.YtgippbgcmmjnbaaXs
set_option linter.unusedVariables false
set_option linter.unusedSimpArgs false
attribute [local go_sem ↓ high] ld27
attribute [local go_sem ↓] Go.wp_at_zero Go.wp_at_succ

attribute [local go_sem ↓ high] bs22
attribute [local go_sem high] BS22.run
theorem plain27 : Plain k27 := fun w base x cs h => by obtain rfl := K27_eq h; exact k27_mkM w base _ x
theorem info27' : (Try.prog.info? 27).map (fun i => (i.zero, i.size, i.bytes)) = some (some (.agg (c27 z27).toArray), k27.sz, 40) := info27
theorem c_rmay1 (A : Option Addr) (c : Nat) (m : S27) (w : World) (hr : Kd.C k27 w A 1 [m]) (hc : 1 ≤ c) (n : Int) : Calls Try.prog 21 #[.slice A 1 c, .int .i64 n] w fun e w' => e = .returned (.int .i64 (mayS [m] n)) ∧ Below w.heap.size w w' :=
  c_rmay A c [m] w hr hc (by simp) n
theorem may1 (m : S27) : mayS [m] 500 = if plB m.f0 500 = true then 0 else 2 := by
  unfold mayS
  rw [if_neg (by omega)]
  have : okL 500 0 [m] = plB m.f0 500 := by
    unfold okL okL plB
    by_cases h : 0 < m.f0 <;> simp [h]
  rw [this]
set_option maxHeartbeats 8000000 in
set_option maxRecDepth 100000 in
theorem c_rput (A : Option Addr) (c : Nat) (l : List S27) (w : World) (hr : Kd.C k27 w A l.length l) (hc : l.length ≤ c) (hb : l.length ≤ 1000000) (m : S27) :
    Calls Try.prog 24 #[.slice A l.length c, .agg (c27 m).toArray] w fun e w' => ∃ v, e = .returned (.tuple #[v, .int .i64 (putS l m).2]) ∧ Kd.R k27 27 w' w.heap.size (fun _ => True) v (putS l m).1 ∧ Below w.heap.size w w' := by
  have HR := Aside0.mk hr
  have HC := Aside0.mk hc
  have HL := Aside0.mk hb
  have hql := keptS_len l m.f0
  have CK := fun (w1 : World) (h1 : Kd.C k27 w1 A l.length l) => c_rkept A c l w1 h1 hc hb m.f0
  have hm : mayS l 500 = if okL 500 0 l = true then 0 else 2 := by unfold mayS; rw [if_neg (by omega)]
  have hm1 := may1 m
  have h1000 : [m].length ≤ 1000000 := by simp
  clear hr
  have HP := Aside0.mk (Hp.start w)
  cases ho : okL 500 0 l with
  | false =>
    rw [ho] at hm
    have HM := Aside0.mk (show mayS l 500 = 2 from hm)
    have hp : putS l m = ([], 2) := by unfold putS; rw [if_pos ho]
    rw [hp]
    clear hm hp ho CK hql hb hc hm1 h1000
    go_enter Try.func24, Try.ntmps24
    go_wp2_with (first | ((with_reducible refine gate_dst (N := 3) rfl ?_); refine ev_box rfl 27 (.tmp 1) rfl (c27 m).toArray rfl ?_; intro g w1 hge hg hb; have HP1 := Aside0.mk (HP.out.newB hb hg hge); clear HP; have HP := HP1; clear HP1; clear hge hg hb) | (go_at_call 21; (with_reducible refine (c_rmay _ c l _ (Kd.C_below HR.out HP.out.below) HC.out HL.out 500).mono ?_); rintro e w2 ⟨rfl, hb⟩; rw [HM.out]; have HP1 := Aside0.mk (HP.out.call hb); clear HP; have HP := HP1; clear HP1; have hcell : w2.cell? ⟨g, 0, none⟩ = some (.int .i64 m.f0) := blk_cell (HP.out.blk 0 rfl) 0; have hld := ld_blk (HP.out.blk 0 rfl); clear hb))
    exact bodyPost_ret (v := .tuple #[.slice none 0 0, .int .i64 2]) (by simp [results, Try.results24, go_sem]) rfl ⟨_, rfl, Kd.R_nil _ _ _ _ _, HP.out.below⟩
  | true =>
    rw [ho] at hm
    have HM := Aside0.mk (show mayS l 500 = 0 from hm)
    cases hpl : plB m.f0 500 with
    | false =>
      rw [hpl] at hm1
      have HM1 := Aside0.mk (show mayS [m] 500 = 2 from hm1)
      have hp : putS l m = ([], 2) := by unfold putS; rw [if_neg (by rw [ho]; simp), if_pos hpl]
      rw [hp]
      clear hm hp ho CK hql hb hc hpl hm1
      go_enter Try.func24, Try.ntmps24
      go_wp2_with (first | ((with_reducible refine gate_dst (N := 3) rfl ?_); refine ev_box rfl 27 (.tmp 1) rfl (c27 m).toArray rfl ?_; intro g w1 hge hg hb; have HP1 := Aside0.mk (HP.out.newB hb hg hge); clear HP; have HP := HP1; clear HP1; clear hge hg hb) | (go_at_call 21; (with_reducible refine (c_rmay _ c l _ (Kd.C_below HR.out HP.out.below) HC.out HL.out 500).mono ?_); rintro e w2 ⟨rfl, hb⟩; rw [HM.out]; have HP1 := Aside0.mk (HP.out.call hb); clear HP; have HP := HP1; clear HP1; have hcell : w2.cell? ⟨g, 0, none⟩ = some (.int .i64 m.f0) := blk_cell (HP.out.blk 0 rfl) 0; have hld := ld_blk (HP.out.blk 0 rfl); clear hb) | (go_at_call 21; (with_reducible refine (c_rmay1 _ 1 m _ (C_blk1 k27 ((HP.out.alloc _).blk 0 rfl) (K27 _ m)) (Nat.le_refl _) 500).mono ?_); rintro e w3 ⟨rfl, hb⟩; rw [HM1.out]; have HP1 := Aside0.mk (((HP.out.alloc _).call hb).drop1); clear HP; have HP := HP1; clear HP1; have hcell : w3.cell? ⟨g, 0, none⟩ = some (.int .i64 m.f0) := blk_cell (HP.out.blk 0 rfl) 0; have hld := ld_blk (HP.out.blk 0 rfl); clear hb))
      exact bodyPost_ret (v := .tuple #[.slice none 0 0, .int .i64 2]) (by simp [results, Try.results24, go_sem]) rfl ⟨_, rfl, Kd.R_nil _ _ _ _ _, HP.out.below⟩
    | true =>
      rw [hpl] at hm1
      have HM1 := Aside0.mk (show mayS [m] 500 = 0 from hm1)
      have hput : putS l m = if check_Missing.hasB l m.f0 = true then ([], 7) else (l.take (keptS l m.f0).length ++ (m :: l.drop (keptS l m.f0).length), 0) := by unfold putS; rw [if_neg (by rw [ho]; simp), if_neg (by rw [hpl]; simp)]
      generalize putS l m = r at hput
      generalize keptS l m.f0 = q at hql CK hput
      have CKK := Aside0.mk CK
      clear CK hm ho hpl hm1
      cases hh : check_Missing.hasB l m.f0 with
      | true =>
        have HH := Aside0.mk hh
        rw [hh, if_pos rfl] at hput
        subst hput
        clear hql hb hc hh
        go_enter Try.func24, Try.ntmps24
        go_wp2_with (first | ((with_reducible refine gate_dst (N := 3) rfl ?_); refine ev_box rfl 27 (.tmp 1) rfl (c27 m).toArray rfl ?_; intro g w1 hge hg hb; have HP1 := Aside0.mk (HP.out.newB hb hg hge); clear HP; have HP := HP1; clear HP1; clear hge hg hb) | (go_at_call 21; (with_reducible refine (c_rmay _ c l _ (Kd.C_below HR.out HP.out.below) HC.out HL.out 500).mono ?_); rintro e w2 ⟨rfl, hb⟩; rw [HM.out]; have HP1 := Aside0.mk (HP.out.call hb); clear HP; have HP := HP1; clear HP1; have hcell : w2.cell? ⟨g, 0, none⟩ = some (.int .i64 m.f0) := blk_cell (HP.out.blk 0 rfl) 0; have hld := ld_blk (HP.out.blk 0 rfl); clear hb) | (go_at_call 21; (with_reducible refine (c_rmay1 _ 1 m _ (C_blk1 k27 ((HP.out.alloc _).blk 0 rfl) (K27 _ m)) (Nat.le_refl _) 500).mono ?_); rintro e w3 ⟨rfl, hb⟩; rw [HM1.out]; have HP1 := Aside0.mk (((HP.out.alloc _).call hb).drop1); clear HP; have HP := HP1; clear HP1; have hcell : w3.cell? ⟨g, 0, none⟩ = some (.int .i64 m.f0) := blk_cell (HP.out.blk 0 rfl) 0; have hld := ld_blk (HP.out.blk 0 rfl); clear hb) | (go_at_call 34; (with_reducible refine (c_rhas _ c l _ (Kd.C_below HR.out HP.out.below) HC.out HL.out m.f0).mono ?_); rintro e w4 ⟨rfl, hb⟩; rw [HH.out]; have HP1 := Aside0.mk (HP.out.call hb); clear HP; have HP := HP1; clear HP1; have hcell : w4.cell? ⟨g, 0, none⟩ = some (.int .i64 m.f0) := blk_cell (HP.out.blk 0 rfl) 0; have hld := ld_blk (HP.out.blk 0 rfl); clear hb))
        exact bodyPost_ret (v := .tuple #[.slice none 0 0, .int .i64 7]) (by simp [results, Try.results24, go_sem]) rfl ⟨_, rfl, Kd.R_nil _ _ _ _ _, HP.out.below⟩
      | false =>
        have HH := Aside0.mk hh
        rw [hh, if_neg (by simp)] at hput
        subst hput
        obtain ⟨i0, hi0, hsz0⟩ := Option.map_eq_some_iff.1 (hi27 z27)
        have hqc : (q.length : Int) ≤ (c : Int) := by omega
        have hq0 : (0 : Int) ≤ (q.length : Int) := by omega
        have hcut := cut_from (P := Try.prog) 22 27 .i64 Try.underlying22 hi0 33 (hsz0.trans (by rw [List.size_toArray, c27_len])) A l.length c (q.length : Int) hq0 (by omega)
        have hdr := Kd.C_drop (m := q.length) (c := c) HR.out hql hc
        have htk := Kd.C_take (m := q.length) HR.out hql
        rw [List.length_take, Nat.min_eq_left hql] at htk
        rw [List.length_drop] at hdr
        rw [Int.toNat_natCast] at hcut
        have hcm : l.length - q.length ≤ 1000000 := by omega
        have hqb : q.length ≤ 1000000 := by omega
        have hk33 : k27.sz = 33 := rfl
        rw [hk33] at hdr
        generalize (if c = q.length then A else A.map (·.add (q.length * 33))) = B at hcut hdr
        obtain ⟨m', hm'⟩ : ∃ m', l.length - q.length = m' := ⟨_, rfl⟩
        obtain ⟨c', hc'⟩ : ∃ c', c - q.length = c' := ⟨_, rfl⟩
        rw [hm', hc'] at hcut
        rw [hm'] at hdr hcm
        have HTK := Aside0.mk htk
        have HDR := Aside0.mk hdr
        have HQB := Aside0.mk hqb
        have HMM := Aside0.mk hcm
        clear hb hc hh htk hdr hqb hcm hm' hc' hi0 hsz0 hql
        go_enter Try.func24, Try.ntmps24
        go_wp2_with (first | ((with_reducible refine gate_dst (N := 3) rfl ?_); refine ev_box rfl 27 (.tmp 1) rfl (c27 m).toArray rfl ?_; intro g w1 hge hg hb; have HP1 := Aside0.mk (HP.out.newB hb hg hge); clear HP; have HP := HP1; clear HP1; clear hge hg hb) | (go_at_call 21; (with_reducible refine (c_rmay _ c l _ (Kd.C_below HR.out HP.out.below) HC.out HL.out 500).mono ?_); rintro e w2 ⟨rfl, hb⟩; rw [HM.out]; have HP1 := Aside0.mk (HP.out.call hb); clear HP; have HP := HP1; clear HP1; have hcell : w2.cell? ⟨g, 0, none⟩ = some (.int .i64 m.f0) := blk_cell (HP.out.blk 0 rfl) 0; have hld := ld_blk (HP.out.blk 0 rfl); clear hb) | (go_at_call 21; (with_reducible refine (c_rmay1 _ 1 m _ (C_blk1 k27 ((HP.out.alloc _).blk 0 rfl) (K27 _ m)) (Nat.le_refl _) 500).mono ?_); rintro e w3 ⟨rfl, hb⟩; rw [HM1.out]; have HP1 := Aside0.mk (((HP.out.alloc _).call hb).drop1); clear HP; have HP := HP1; clear HP1; have hcell : w3.cell? ⟨g, 0, none⟩ = some (.int .i64 m.f0) := blk_cell (HP.out.blk 0 rfl) 0; have hld := ld_blk (HP.out.blk 0 rfl); clear hb) | (go_at_call 34; (with_reducible refine (c_rhas _ c l _ (Kd.C_below HR.out HP.out.below) HC.out HL.out m.f0).mono ?_); rintro e w4 ⟨rfl, hb⟩; rw [HH.out]; have HP1 := Aside0.mk (HP.out.call hb); clear HP; have HP := HP1; clear HP1; have hcell : w4.cell? ⟨g, 0, none⟩ = some (.int .i64 m.f0) := blk_cell (HP.out.blk 0 rfl) 0; have hld := ld_blk (HP.out.blk 0 rfl); clear hb) | (go_at_call 13; (with_reducible refine (CKK.out _ (Kd.C_below HR.out HP.out.below)).mono ?_); rintro e w5 ⟨v, rfl, ho, hb⟩; obtain ⟨A6, c6, rfl, hlc6, hC6⟩ := Kd.R_reads ho; have HP2 := Aside0.mk (HP.out.call hb); clear HP; have HP := HP2; clear HP2; have hcell : w5.cell? ⟨g, 0, none⟩ = some (.int .i64 m.f0) := blk_cell (HP.out.blk 0 rfl) 0; have hld := ld_blk (HP.out.blk 0 rfl); clear ho hb hlc6 hC6) | ((with_reducible refine gate_dst (N := 27) rfl ?_); refine ev_lit (d := k27) HP.out 27 (xs := []) (inner := []) rfl (N := 27) rfl ?hr (Reps.none _ _) (by simp) ?_; (case hr => first | (go_simp; done) | (go_simp; rfl)); intro v27 w6 hp; clear HP; have HP := Aside0.mk hp; clear hp; have hld := ld_blk (HP.out.blk 1 rfl)) | ((with_reducible refine gate_builtin (b := .append) (xs := #[.tmp 27, .tmp 30]) rfl ?_); at_builtin; refine ev_append plain27 HP.out 0 rfl (.tmp 27) (.tmp 30) 22 27 (.agg (c27 z27).toArray) 40 rfl Try.underlying22 info27' rfl (by decide) (by omega) v27 [] (l.take q.length) _ q.length c rfl rfl rfl (Kd.C_below HTK.out HP.out.below) (by have := HQB.out; simp; omega) ?_; intro v31 w7 hp; clear HP; have HP := Aside0.mk hp; clear hp; have hld := ld_blk (HP.out.blk 1 rfl)))
        have HP1 := Aside0.mk (HP.out.drewN 1)
        clear HP hld hcell
        have HP := HP1
        clear HP1
        go_region_held3 (fun w' => (LD27 (.pointer (some ⟨g, 0, none⟩))).run Try.prog w' = .ok (.agg (c27 m).toArray) w') (first | exact ld_blk (HP.out.blk 1 rfl) | exact ld_blk ((HP.out.drewN 1).blk 1 rfl) | exact ld_blk ((HP.out.alloc _).blk 2 rfl) | exact ld_blk (HP.out.blk 2 rfl)) (first | (refine st_append plain27 (HP.out.alloc _) 1 rfl (.tmp 32) (.tmp 34) 22 27 (.agg (c27 z27).toArray) 40 rfl Try.underlying22 info27' rfl (by decide) (by omega) v31 ([] ++ l.take q.length) [m] _ 1 1 (by rfl) (by rfl) rfl (C_blk1 k27 ((HP.out.alloc _).blk 0 rfl) (K27 _ m)) (by have := HQB.out; simp; omega) ?_; intro v35 w8 hp; clear HP; have HP := Aside0.mk hp; clear hp) | (refine st_append plain27 HP.out 1 rfl (.tmp 35) (.tmp 38) 22 27 (.agg (c27 z27).toArray) 40 rfl Try.underlying22 info27' rfl (by decide) (by omega) v35 ([] ++ l.take q.length ++ [m]) (l.drop q.length) B m' c' (by rfl) (by rfl) rfl (Kd.C_below HDR.out HP.out.below) (by have := HQB.out; have := HMM.out; simp; omega) ?_; intro v39 w9 hp; clear HP; have HP := Aside0.mk hp; clear hp))
        all_goals go_wp2
        exact bodyPost_ret (v := .tuple #[v39, .int .i64 0]) (by simp [results, Try.results24, go_sem]) rfl ⟨_, rfl, by have := HP.out.row 1 rfl; simpa using this, HP.out.below⟩
end Go.Proofs.Ytgippbgcmmjnbaa.Ct
