import Derived.Test.YtgippbgcmmjnbaaCt1
import Derived.Deep.RegionHeld3
import Derived.Deep.DrawnRows
namespace Go.Proofs.Ytgippbgcmmjnbaa.Ct
open Go.RowKit Go.Proofs.Ytgippbgcmmjnbaa.XB Go.Proofs.Ytgippbgcmmjnbaa.Th Go.Proofs.YtgippbgcmmjnbaaW.PrintWords Go.Proofs.YtgippbgcmmjnbaaW.PrintLast Go.Proofs.YtgippbgcmmjnbaaXe Go.Proofs.YtgippbgcmmjnbaaXs
set_option linter.unusedVariables false
set_option linter.unusedSimpArgs false
attribute [local go_sem ↓ high] ld27
attribute [local go_sem ↓] Go.wp_at_zero Go.wp_at_succ

def putS (l : List S27) (m : S27) : List S27 × Int :=
  if okL 500 0 l = false then ([], 2) else if plB m.f0 500 = false then ([], 2) else if check_Missing.hasB l m.f0 = true then ([], 7)
  else (l.take (keptS l m.f0).length ++ (m :: l.drop (keptS l m.f0).length), 0)
/-- is the last of those that are kept at just this place -/
theorem last_has {l : List S27} {a : Int} (hs : okL 500 0 l = true) : check_Missing.hasB l a = (decide (0 < (keptS l a).length) && ((rd_T27 l (((keptS l a).length : Int) - 1)).f0 == a)) := by
  obtain ⟨j, hj, hm, hf⟩ := search (a := a) hs l.length 0 l.length (by omega) (by omega) (Nat.le_refl _) (fun q hq => by omega) (fun q hq hq2 => by omega)
  have hk : keptS l a = l.take j := by unfold keptS; rw [if_pos hs, hf]
  have hlen : (keptS l a).length = j := by rw [hk, List.length_take]; omega
  have hmem : ∀ x ∈ l, x.f0 ≤ a → x ∈ l.take j := fun x hx hxa => by rw [hf, List.mem_filter]; exact ⟨hx, decide_eq_true hxa⟩
  have hle : ∀ x ∈ l.take j, x.f0 ≤ a := fun x hx => by rw [hf, List.mem_filter] at hx; exact of_decide_eq_true hx.2
  rw [hlen]
  cases j with
  | zero =>
    have : check_Missing.hasB l a = false := by
      unfold check_Missing.hasB
      rw [List.any_eq_false]
      intro x hx he
      have := hmem x hx (by have := eq_of_beq he; omega)
      simp at this
    rw [this]; rfl
  | succ j =>
    have hd : decide (0 < j + 1) = true := by simp
    rw [hd, Bool.true_and, show (((j + 1 : Nat) : Int) - 1) = (j : Int) by omega]
    have hr : rd_T27 l (j : Int) = l[j] := by simp [rd_T27, show j < l.length by omega]
    rw [hr]
    cases he : (l[j].f0 == a) with
    | true =>
      unfold check_Missing.hasB
      rw [List.any_eq_true]
      exact ⟨_, List.getElem_mem _, he⟩
    | false =>
      unfold check_Missing.hasB
      rw [List.any_eq_false]
      intro x hx he2
      have hxa := eq_of_beq he2
      have hx2 := hmem x hx (by omega)
      obtain ⟨q, hq, rfl⟩ := List.getElem_of_mem hx2
      rw [List.length_take] at hq
      rw [List.getElem_take] at hxa
      have hja : l[j].f0 ≤ a := hle _ (by rw [List.mem_take_iff_getElem]; exact ⟨j, by omega, rfl⟩)
      rcases Nat.lt_or_ge q j with h | h
      · have h3 := sorted_rd hs q j h (by omega)
        rw [hr] at h3
        have : rd_T27 l (q : Int) = l[q] := by simp [rd_T27, show q < l.length by omega]
        rw [this] at h3
        omega
      · have : q = j := by omega
        subst this
        rw [beq_eq_false_iff_ne] at he
        exact he hxa
theorem ld_blk {w : World} {g : Nat} {m : S27} {t : TypeId} {fr : Nat × Nat} (hg : w.heap[g]? = some (.cells (c27 m).toArray t fr)) : (LD27 (.pointer (some ⟨g, 0, none⟩))).run Try.prog w = .ok (.agg (c27 m).toArray) w := by
  show (Instr.loadAt 27 _).run Try.prog w = _
  simp only [Instr.loadAt, Instr.sureAddr, Sem.run_bind, Sem.run_pure, Result.andThen_ok, run_loadVar_row w g t 27 _ fr _ hg Try.underlying27 rfl (hi27 m)]
/-- the literal of one checkpoint: opaque for the walks -/
noncomputable def BS22 (parts : Array (Nat × Value)) : Sem Value := Instr.buildSlice 22 1 parts
theorem bs22 (parts : Array (Nat × Value)) : Instr.buildSlice 22 1 parts = BS22 parts := rfl
theorem BS22.run (m : S27) (w : World) : (BS22 #[(0, .agg (c27 m).toArray)]).run Try.prog w = .ok (.slice (some ⟨w.heap.size, 0, none⟩) 1 1) (w.alloc (.cells (c27 m).toArray 27)) :=
  run_buildSlice1 Try.underlying22 (z := .agg (c27 z27).toArray) (by rw [c27_len]; kernel_rfl) (by rw [c27_len]; decide) (by rw [c27_len]; decide) w
attribute [local go_sem ↓ high] bs22
attribute [local go_sem high] BS22.run
theorem keptS_le (l : List S27) (a : Int) : (keptS l a).length ≤ l.length := keptS_len l a
theorem c_place (a n : Int) (w : World) : Calls Try.prog 37 #[.int .i64 a, .int .i64 n] w fun e w' => e = .returned (.bool (plB a n)) ∧ Below w.heap.size w w' :=
  (check_place.calls a n _ w (place_f a n)).mono fun e w' ⟨h1, h2⟩ => ⟨h1, h2.below⟩
theorem c_clone (A : Option Addr) (c : Nat) (l : List S27) (w : World) (hr : Kd.C k27 w A l.length l) (hc : l.length ≤ c) (hb : l.length ≤ 1000000) : Calls Try.prog 29 #[.slice A l.length c] w fun e w' => ∃ v, e = .returned v ∧ Kd.R k27 27 w' w.heap.size (fun _ => True) v l ∧ Below w.heap.size w w' :=
  slices_Clone.calls A c l l w hr hc (by unfold slices_Clone.f; rw [if_pos (by omega)])
theorem c_insert {w0 w : World} {Rs : List Res} (HP : Hp w0 w Rs) (i j : Nat) (hij : j ≠ i) (v : Value) (l : List S27) (ga : Nat) (m : S27) (c2 : Nat) (hi : Rs[i]? = some (.row k27 27 w0.heap.size v l)) (hj : Rs[j]? = some (.blk ga (.cells (c27 m).toArray 27 (0, 0)))) (n : Nat) (hn : n ≤ l.length) (hl : l.length ≤ 1000000) (hc2 : 1 ≤ c2) (ni : Int) (hni : ni = n) :
    Calls Try.prog 38 #[v, .int .i64 ni, .slice (some ⟨ga, 0, none⟩) 1 c2] w fun e w' => ∃ v', e = .returned v' ∧ Hp w0 w' (Rs.set i (.row k27 27 w0.heap.size v' (l.take n ++ m :: l.drop n))) := by
  subst hni
  obtain ⟨F, hR, hoff, _, hup⟩ := HP.setR i hi
  have hga := HP.blk j hj
  refine (slices_Insert.calls F v l n (some ⟨ga, 0, none⟩) c2 [m] (l.take n ++ m :: l.drop n) w0 w HP.below hR (fun W_ hk => C_blk1 k27 (t := 27) (fr := (0, 0)) ((hk.2 ga (blk_lt hga) (hoff j hij hj)).trans hga) (K27 W_ m)) (by simpa using hc2) (by unfold slices_Insert.f; rw [if_pos ⟨by omega, by omega, by simp; omega⟩]; simp)).mono ?_
  rintro e w' ⟨v', rfl, ho, hb, hk⟩
  exact ⟨v', rfl, hup w' v' _ ho (fun k hk => hk) hb hk⟩
set_option maxHeartbeats 8000000 in
set_option maxRecDepth 100000 in
theorem c_put (A : Option Addr) (c : Nat) (l : List S27) (w : World) (hr : Kd.C k27 w A l.length l) (hc : l.length ≤ c) (hb : l.length ≤ 1000000) (m : S27) :
    Calls Try.prog 23 #[.slice A l.length c, .agg (c27 m).toArray] w fun e w' => ∃ v, e = .returned (.tuple #[v, .int .i64 (putS l m).2]) ∧ Kd.R k27 27 w' w.heap.size (fun _ => True) v (putS l m).1 ∧ Below w.heap.size w w' := by
  have HR := Aside0.mk hr
  have HC := Aside0.mk hc
  have HL := Aside0.mk hb
  have hql := keptS_len l m.f0
  have CK := fun (w1 : World) (h1 : Kd.C k27 w1 A l.length l) => c_kept A c l w1 h1 hc hb m.f0
  have hm : mayS l 500 = if okL 500 0 l = true then 0 else 2 := by unfold mayS; rw [if_neg (by omega)]
  clear hr
  have HP := Aside0.mk (Hp.start w)
  cases ho : okL 500 0 l with
  | false =>
    rw [ho] at hm
    have HM := Aside0.mk (show mayS l 500 = 2 from hm)
    have hp : putS l m = ([], 2) := by unfold putS; rw [if_pos ho]
    rw [hp]
    clear hm hp ho CK hql hb hc
    go_enter Try.func23, Try.ntmps23
    go_wp2_with (first | ((with_reducible refine gate_dst (N := 3) rfl ?_); refine ev_box rfl 27 (.tmp 1) rfl (c27 m).toArray rfl ?_; intro g w1 hge hg hb; have HP1 := Aside0.mk (HP.out.newB hb hg hge); clear HP; have HP := HP1; clear HP1; have hcell := blk_cell (HP.out.blk 0 rfl) 0; have hcell : w1.cell? ⟨g, 0, none⟩ = some (.int .i64 m.f0) := hcell; clear hge hg hb) | (go_at_call 20; refine (c_may A c l _ (Kd.C_below HR.out HP.out.below) HC.out 500).mono ?_; rintro e w2 ⟨rfl, hb⟩; rw [HM.out]; have HP1 := Aside0.mk (HP.out.call hb); clear HP; have HP := HP1; clear HP1; have hcell : w2.cell? ⟨g, 0, none⟩ = some (.int .i64 m.f0) := blk_cell (HP.out.blk 0 rfl) 0; clear hb))
    exact bodyPost_ret (v := .tuple #[.slice none 0 0, .int .i64 2]) (by simp [results, Try.results23, go_sem]) rfl ⟨_, rfl, Kd.R_nil _ _ _ _ _, HP.out.below⟩
  | true =>
    rw [ho] at hm
    have HM := Aside0.mk (show mayS l 500 = 0 from hm)
    have hlast := last_has (a := m.f0) ho
    cases hpl : plB m.f0 500 with
    | false =>
      have HPL := Aside0.mk hpl
      have hp : putS l m = ([], 2) := by unfold putS; rw [if_neg (by rw [ho]; simp), if_pos hpl]
      rw [hp]
      clear hm hp ho CK hql hb hc hlast hpl
      go_enter Try.func23, Try.ntmps23
      go_wp2_with (first | ((with_reducible refine gate_dst (N := 3) rfl ?_); refine ev_box rfl 27 (.tmp 1) rfl (c27 m).toArray rfl ?_; intro g w1 hge hg hb; have HP1 := Aside0.mk (HP.out.newB hb hg hge); clear HP; have HP := HP1; clear HP1; have hcell := blk_cell (HP.out.blk 0 rfl) 0; have hcell : w1.cell? ⟨g, 0, none⟩ = some (.int .i64 m.f0) := hcell; clear hge hg hb) | (go_at_call 20; refine (c_may A c l _ (Kd.C_below HR.out HP.out.below) HC.out 500).mono ?_; rintro e w2 ⟨rfl, hb⟩; rw [HM.out]; have HP1 := Aside0.mk (HP.out.call hb); clear HP; have HP := HP1; clear HP1; have hcell : w2.cell? ⟨g, 0, none⟩ = some (.int .i64 m.f0) := blk_cell (HP.out.blk 0 rfl) 0; clear hb) | (go_at_call 37; refine (c_place m.f0 500 _).mono ?_; rintro e w3 ⟨rfl, hb⟩; rw [HPL.out]; have HP1 := Aside0.mk (HP.out.call hb); clear HP; have HP := HP1; clear HP1; have hcell : w3.cell? ⟨g, 0, none⟩ = some (.int .i64 m.f0) := blk_cell (HP.out.blk 0 rfl) 0; clear hb))
      exact bodyPost_ret (v := .tuple #[.slice none 0 0, .int .i64 2]) (by simp [results, Try.results23, go_sem]) rfl ⟨_, rfl, Kd.R_nil _ _ _ _ _, HP.out.below⟩
    | true =>
      have HPL := Aside0.mk hpl
      have hput : putS l m = if check_Missing.hasB l m.f0 = true then ([], 7) else (l.take (keptS l m.f0).length ++ (m :: l.drop (keptS l m.f0).length), 0) := by unfold putS; rw [if_neg (by rw [ho]; simp), if_neg (by rw [hpl]; simp)]
      generalize putS l m = r at hput
      generalize keptS l m.f0 = q at hql CK hlast hput
      have CKK := Aside0.mk CK
      have hqb : q.length ≤ 1000000 := Nat.le_trans hql hb
      clear CK hm ho hpl
      by_cases hq0 : 0 < q.length
      · have e2 : decide (0 < (q.length : Int)) = true := decide_eq_true (by omega)
        obtain ⟨y, hyq⟩ : ∃ y, (q.length : Int) - 1 = y := ⟨_, rfl⟩
        have e3 : IntKind.i64.wrap ((q.length : Int) - 1) = y := by rw [i64_w, wr (by omega)]; exact hyq
        have k0 : (0 : Int) ≤ y := by omega
        have k1 : y < (l.length : Int) := by omega
        rw [decide_eq_true hq0, Bool.true_and, hyq] at hlast
        clear hyq
        cases hx : ((rd_T27 l y).f0 == m.f0) with
        | true =>
          rw [hlast, hx, if_pos rfl] at hput
          subst hput
          clear hql hlast hqb hb hc
          have hd : decide (0 < q.length) = true := decide_eq_true hq0
          go_enter Try.func23, Try.ntmps23
          go_wp2_with (first | ((with_reducible refine gate_dst (N := 3) rfl ?_); refine ev_box rfl 27 (.tmp 1) rfl (c27 m).toArray rfl ?_; intro g w1 hge hg hb; have HP1 := Aside0.mk (HP.out.newB hb hg hge); clear HP; have HP := HP1; clear HP1; have hcell := blk_cell (HP.out.blk 0 rfl) 0; have hcell : w1.cell? ⟨g, 0, none⟩ = some (.int .i64 m.f0) := hcell; clear hge hg hb) | (go_at_call 20; refine (c_may A c l _ (Kd.C_below HR.out HP.out.below) HC.out 500).mono ?_; rintro e w2 ⟨rfl, hb⟩; rw [HM.out]; have HP1 := Aside0.mk (HP.out.call hb); clear HP; have HP := HP1; clear HP1; have hcell : w2.cell? ⟨g, 0, none⟩ = some (.int .i64 m.f0) := blk_cell (HP.out.blk 0 rfl) 0; clear hb) | (go_at_call 37; refine (c_place m.f0 500 _).mono ?_; rintro e w3 ⟨rfl, hb⟩; rw [HPL.out]; have HP1 := Aside0.mk (HP.out.call hb); clear HP; have HP := HP1; clear HP1; have hcell : w3.cell? ⟨g, 0, none⟩ = some (.int .i64 m.f0) := blk_cell (HP.out.blk 0 rfl) 0; clear hb) | (go_at_call 11; refine (CKK.out _ (Kd.C_below HR.out HP.out.below)).mono ?_; rintro e w4 ⟨v, rfl, ho, hb⟩; obtain ⟨A6, c6, rfl, hlc6, hC6⟩ := Kd.R_reads ho; have HP2 := Aside0.mk (HP.out.call hb); clear HP; have HP := HP2; clear HP2; have hcell : w4.cell? ⟨g, 0, none⟩ = some (.int .i64 m.f0) := blk_cell (HP.out.blk 0 rfl) 0; obtain ⟨ad, rfl, hy, hld⟩ := ld_at (Kd.C_below HR.out HP.out.below) y k0 k1; clear hld; clear ho hb hlc6 hC6))
          go_quiet (fail)
          go_wp2
          exact bodyPost_ret (v := .tuple #[.slice none 0 0, .int .i64 7]) (by simp [results, Try.results23, go_sem]) rfl ⟨_, rfl, Kd.R_nil _ _ _ _ _, pw_below_drewN HP.out.below _⟩
        | false =>
          rw [hlast, hx, if_neg (by simp)] at hput
          subst hput
          have hd : decide (0 < q.length) = true := decide_eq_true hq0
          have hu27 := Try.underlying27
          have hi27m : (Try.prog.info? 27).map (·.size) = some (c27 m).length := hi27 m
          have hlen27 : (c27 m).length = 33 := rfl
          have hone27 : ∀ v ∈ c27 m, v.oneCell' = true := fun v hv => k27.K_one (K27 w m) v hv
          have HQ := Aside0.mk hql
          clear hql hlast hqb hb hc
          go_enter Try.func23, Try.ntmps23
          go_wp2_with (first | ((with_reducible refine gate_dst (N := 3) rfl ?_); refine ev_box rfl 27 (.tmp 1) rfl (c27 m).toArray rfl ?_; intro g w1 hge hg hb; have HP1 := Aside0.mk (HP.out.newB hb hg hge); clear HP; have HP := HP1; clear HP1; have hcell := blk_cell (HP.out.blk 0 rfl) 0; have hcell : w1.cell? ⟨g, 0, none⟩ = some (.int .i64 m.f0) := hcell; clear hge hg hb) | (go_at_call 20; refine (c_may A c l _ (Kd.C_below HR.out HP.out.below) HC.out 500).mono ?_; rintro e w2 ⟨rfl, hb⟩; rw [HM.out]; have HP1 := Aside0.mk (HP.out.call hb); clear HP; have HP := HP1; clear HP1; have hcell : w2.cell? ⟨g, 0, none⟩ = some (.int .i64 m.f0) := blk_cell (HP.out.blk 0 rfl) 0; clear hb) | (go_at_call 37; refine (c_place m.f0 500 _).mono ?_; rintro e w3 ⟨rfl, hb⟩; rw [HPL.out]; have HP1 := Aside0.mk (HP.out.call hb); clear HP; have HP := HP1; clear HP1; have hcell : w3.cell? ⟨g, 0, none⟩ = some (.int .i64 m.f0) := blk_cell (HP.out.blk 0 rfl) 0; clear hb) | (go_at_call 11; refine (CKK.out _ (Kd.C_below HR.out HP.out.below)).mono ?_; rintro e w4 ⟨v, rfl, ho, hb⟩; obtain ⟨A6, c6, rfl, hlc6, hC6⟩ := Kd.R_reads ho; have HP2 := Aside0.mk (HP.out.call hb); clear HP; have HP := HP2; clear HP2; have hcell : w4.cell? ⟨g, 0, none⟩ = some (.int .i64 m.f0) := blk_cell (HP.out.blk 0 rfl) 0; obtain ⟨ad, rfl, hy, hld⟩ := ld_at (Kd.C_below HR.out HP.out.below) y k0 k1; clear hld; clear ho hb hlc6 hC6))
          go_quiet (fail)
          go_wp2
          have HP1 := Aside0.mk (HP.out.drewN (nq + 1))
          clear HP hcell
          have HP := HP1
          clear HP1
          go_region_held3 (fun w' => (LD27 (.pointer (some ⟨g, 0, none⟩))).run Try.prog w' = .ok (.agg (c27 m).toArray) w') (first | exact ld_blk (HP.out.blk 0 rfl) | exact ld_blk (w := w4.drewN (nq + 1)) (HP.out.blk 0 rfl) | exact ld_blk (HP.out.blk 1 rfl) | exact ld_blk (HP.out.blk 2 rfl) | exact ld_blk ((HP.out.alloc _).blk 1 rfl) | exact ld_blk ((HP.out.alloc _).blk 2 rfl)) (first | (go_at_call 29; (with_reducible refine (c_clone _ c l _ (Kd.C_below HR.out HP.out.below) HC.out HL.out).mono ?_); rintro e w5 ⟨v5, rfl, ho, hb⟩; have HP1 := Aside0.mk (HP.out.newR hb ho); clear HP; have HP := HP1; clear HP1; clear ho hb) | (go_at_call 29; (with_reducible refine (c_clone _ c l _ (Kd.C_below HR.out (HP.out.alloc _).below) HC.out HL.out).mono ?_); rintro e w5 ⟨v5, rfl, ho, hb⟩; have HP1 := Aside0.mk ((HP.out.alloc _).newR hb ho); clear HP; have HP := HP1; clear HP1; clear ho hb) | (go_at_call 38; (with_reducible refine (c_insert (w0 := w) (HP.out.alloc _) 1 0 (by decide) v5 l _ m 1 rfl rfl q.length HQ.out HL.out (Nat.le_refl _) _ rfl).mono ?_); rintro e w6 ⟨v6, rfl, hp6⟩; clear HP; have HP := Aside0.mk hp6; clear hp6) | (go_at_call 38; (with_reducible refine (c_insert (w0 := w) HP.out 0 1 (by decide) v5 l _ m 1 rfl rfl q.length HQ.out HL.out (Nat.le_refl _) _ rfl).mono ?_); rintro e w6 ⟨v6, rfl, hp6⟩; clear HP; have HP := Aside0.mk hp6; clear hp6))
          all_goals go_wp2
          all_goals first | exact bodyPost_ret (v := .tuple #[v6, .int .i64 0]) (by simp [results, Try.results23, go_sem]) rfl ⟨_, rfl, HP.out.row 0 rfl, HP.out.below⟩ | exact bodyPost_ret (v := .tuple #[v6, .int .i64 0]) (by simp [results, Try.results23, go_sem]) rfl ⟨_, rfl, HP.out.row 1 rfl, HP.out.below⟩
      · obtain rfl : q = [] := List.length_eq_zero_iff.1 (by omega)
        rw [hlast] at hput
        simp only [List.length_nil, Nat.lt_irrefl, decide_false, Bool.false_and, Bool.false_eq_true, if_false] at hput
        subst hput
        have hu27 := Try.underlying27
        have hi27m : (Try.prog.info? 27).map (·.size) = some (c27 m).length := hi27 m
        have hlen27 : (c27 m).length = 33 := rfl
        have hone27 : ∀ v ∈ c27 m, v.oneCell' = true := fun v hv => k27.K_one (K27 w m) v hv
        clear hql hlast hqb hb hc hq0
        go_enter Try.func23, Try.ntmps23
        go_wp2_with (first | ((with_reducible refine gate_dst (N := 3) rfl ?_); refine ev_box rfl 27 (.tmp 1) rfl (c27 m).toArray rfl ?_; intro g w1 hge hg hb; have HP1 := Aside0.mk (HP.out.newB hb hg hge); clear HP; have HP := HP1; clear HP1; have hcell := blk_cell (HP.out.blk 0 rfl) 0; have hcell : w1.cell? ⟨g, 0, none⟩ = some (.int .i64 m.f0) := hcell; clear hge hg hb) | (go_at_call 20; refine (c_may A c l _ (Kd.C_below HR.out HP.out.below) HC.out 500).mono ?_; rintro e w2 ⟨rfl, hb⟩; rw [HM.out]; have HP1 := Aside0.mk (HP.out.call hb); clear HP; have HP := HP1; clear HP1; have hcell : w2.cell? ⟨g, 0, none⟩ = some (.int .i64 m.f0) := blk_cell (HP.out.blk 0 rfl) 0; clear hb) | (go_at_call 37; refine (c_place m.f0 500 _).mono ?_; rintro e w3 ⟨rfl, hb⟩; rw [HPL.out]; have HP1 := Aside0.mk (HP.out.call hb); clear HP; have HP := HP1; clear HP1; have hcell : w3.cell? ⟨g, 0, none⟩ = some (.int .i64 m.f0) := blk_cell (HP.out.blk 0 rfl) 0; clear hb) | (go_at_call 11; refine (CKK.out _ (Kd.C_below HR.out HP.out.below)).mono ?_; rintro e w4 ⟨v, rfl, ho, hb⟩; obtain ⟨A6, c6, rfl, hlc6, hC6⟩ := Kd.R_reads ho; have HP2 := Aside0.mk (HP.out.call hb); clear HP; have HP := HP2; clear HP2; have hcell : w4.cell? ⟨g, 0, none⟩ = some (.int .i64 m.f0) := blk_cell (HP.out.blk 0 rfl) 0; clear ho hb hlc6 hC6))
        go_quiet (fail)
        go_wp2
        have HP1 := Aside0.mk (HP.out.drewN (nq + 1))
        clear HP hcell
        have HP := HP1
        clear HP1
        go_region_held3 (fun w' => (LD27 (.pointer (some ⟨g, 0, none⟩))).run Try.prog w' = .ok (.agg (c27 m).toArray) w') (first | exact ld_blk (HP.out.blk 0 rfl) | exact ld_blk (w := w4.drewN (nq + 1)) (HP.out.blk 0 rfl) | exact ld_blk (HP.out.blk 1 rfl) | exact ld_blk (HP.out.blk 2 rfl) | exact ld_blk ((HP.out.alloc _).blk 1 rfl) | exact ld_blk ((HP.out.alloc _).blk 2 rfl)) (first | (go_at_call 29; (with_reducible refine (c_clone _ c l _ (Kd.C_below HR.out HP.out.below) HC.out HL.out).mono ?_); rintro e w5 ⟨v5, rfl, ho, hb⟩; have HP1 := Aside0.mk (HP.out.newR hb ho); clear HP; have HP := HP1; clear HP1; clear ho hb) | (go_at_call 29; (with_reducible refine (c_clone _ c l _ (Kd.C_below HR.out (HP.out.alloc _).below) HC.out HL.out).mono ?_); rintro e w5 ⟨v5, rfl, ho, hb⟩; have HP1 := Aside0.mk ((HP.out.alloc _).newR hb ho); clear HP; have HP := HP1; clear HP1; clear ho hb) | (go_at_call 38; (with_reducible refine (c_insert (w0 := w) (HP.out.alloc _) 1 0 (by decide) v5 l _ m 1 rfl rfl 0 (Nat.zero_le _) HL.out (Nat.le_refl _) 0 rfl).mono ?_); rintro e w6 ⟨v6, rfl, hp6⟩; clear HP; have HP := Aside0.mk hp6; clear hp6) | (go_at_call 38; (with_reducible refine (c_insert (w0 := w) HP.out 0 1 (by decide) v5 l _ m 1 rfl rfl 0 (Nat.zero_le _) HL.out (Nat.le_refl _) 0 rfl).mono ?_); rintro e w6 ⟨v6, rfl, hp6⟩; clear HP; have HP := Aside0.mk hp6; clear hp6))
        all_goals go_wp2
        all_goals first | exact bodyPost_ret (v := .tuple #[v6, .int .i64 0]) (by simp [results, Try.results23, go_sem]) rfl ⟨_, rfl, HP.out.row 0 rfl, HP.out.below⟩ | exact bodyPost_ret (v := .tuple #[v6, .int .i64 0]) (by simp [results, Try.results23, go_sem]) rfl ⟨_, rfl, HP.out.row 1 rfl, HP.out.below⟩
end Go.Proofs.Ytgippbgcmmjnbaa.Ct
