import Derived.Test.YtgippbgcmmjnbaaCt3
namespace Go.Proofs.Ytgippbgcmmjnbaa.Ct
open Go.RowKit Go.Proofs.Ytgippbgcmmjnbaa.XB Go.Proofs.Ytgippbgcmmjnbaa.Th Go.Proofs.YtgippbgcmmjnbaaW.PrintWords Go.Proofs.YtgippbgcmmjnbaaW.PrintLast Go.Proofs.YtgippbgcmmjnbaaXe Go.Proofs.YtgippbgcmmjnbaaXs
set_option linter.unusedVariables false
set_option linter.unusedSimpArgs false
attribute [local go_sem ↓ high] ld27
attribute [local go_sem ↓ high] bs22
attribute [local go_sem high] BS22.run

/-! ### at, awake -/
def atS (l : List Int) : List S27 := l.map fun n => ⟨n, z25⟩
theorem at_l (B : List Int) : ∀ (A l : List Int) (out : List S27) (i : Int), l = A ++ B → i = (A.length : Int) → l.length ≤ 1000000 → out.length ≤ A.length → Et (fun k => retconlaw23_at.l0 k l out i) (out ++ atS B) := by
  induction B with
  | nil =>
    intro A l out i hl hi hb ho
    refine Et.succ ?_
    simp only [retconlaw23_at.l0]
    simp at hl
    subst hl
    refine Et.neg (by omega) ?_
    simpa [atS] using Et.ret out
  | cons x B ih =>
    intro A l out i hl hi hb ho
    have hlen := leni_mid A x B
    rw [← hl] at hlen
    refine Et.succ ?_
    simp only [retconlaw23_at.l0]
    refine Et.pos (by omega) (Et.pos (by omega) (Et.pos (by omega) ?_))
    rw [hl, rdi_mid A x B hi, ← hl, wr (x := i + 1) (by omega)]
    have := ih (A ++ [x]) l (out ++ [⟨x, z25⟩]) (i + 1) (by simp [hl]) (by simp; omega) hb (by simp; omega)
    rw [List.append_assoc] at this
    exact this
theorem c_at (A : Option Addr) (c : Nat) (l : List Int) (w : World) (hr : Kd.C (Kd.int .i64) w A l.length l) (hc : l.length ≤ c) (hb : l.length ≤ 1000000) :
    Calls Try.prog 25 #[.slice A l.length c] w fun e w' => ∃ v, e = .returned v ∧ Kd.R k27 27 w' w.heap.size (fun _ => True) v (atS l) ∧ Below w.heap.size w w' := by
  obtain ⟨k, hk⟩ := (at_l l [] l [] 0 rfl rfl hb (by simp)).out
  exact retconlaw23_at.calls k A c l _ w hr hc hk
theorem c_at' (A : Option Addr) (c : Nat) (l : List Int) (m : List S27) (w : World) (hr : Kd.C (Kd.int .i64) w A l.length l) (hc : l.length ≤ c) (hb : l.length ≤ 1000000) (hm : atS l = m) :
    Calls Try.prog 25 #[.slice A l.length c] w fun e w' => ∃ v, e = .returned v ∧ Kd.R k27 27 w' w.heap.size (fun _ => True) v m ∧ Below w.heap.size w w' := by
  subst hm; exact c_at A c l w hr hc hb
section
variable (A : Option Addr) (c : Nat) (l : List S27) (w : World) (hr : Kd.C k27 w A l.length l) (hc : l.length ≤ c) (hb : l.length ≤ 1000000)
include hr hc
theorem c_may' (n r : Int) (h : mayS l n = r) : Calls Try.prog 20 #[.slice A l.length c, .int .i64 n] w fun e w' => e = .returned (.int .i64 r) ∧ Below w.heap.size w w' := by subst h; exact c_may A c l w hr hc n
theorem c_miss' (n : Int) (r : List Int) (h : missS l n = r) : Calls Try.prog 15 #[.slice A l.length c, .int .i64 n] w fun e w' => ∃ v, e = .returned v ∧ Kd.R (Kd.int .i64) 3 w' w.heap.size (fun _ => True) v r ∧ Below w.heap.size w w' := by subst h; exact c_miss A c l w hr hc n
include hb
theorem c_rmay' (n r : Int) (h : mayS l n = r) : Calls Try.prog 21 #[.slice A l.length c, .int .i64 n] w fun e w' => e = .returned (.int .i64 r) ∧ Below w.heap.size w w' := by subst h; exact c_rmay A c l w hr hc hb n
theorem c_rmiss' (n : Int) (r : List Int) (h : missS l n = r) : Calls Try.prog 16 #[.slice A l.length c, .int .i64 n] w fun e w' => ∃ v, e = .returned v ∧ Kd.R (Kd.int .i64) 3 w' w.heap.size (fun _ => True) v r ∧ Below w.heap.size w w' := by subst h; exact c_rmiss A c l w hr hc hb n
theorem c_kept' (n : Int) (r : List S27) (h : keptS l n = r) : Calls Try.prog 11 #[.slice A l.length c, .int .i64 n] w fun e w' => ∃ v, e = .returned v ∧ Kd.R k27 27 w' w.heap.size (fun _ => True) v r ∧ Below w.heap.size w w' := by subst h; exact c_kept A c l w hr hc hb n
theorem c_rkept' (n : Int) (r : List S27) (h : keptS l n = r) : Calls Try.prog 13 #[.slice A l.length c, .int .i64 n] w fun e w' => ∃ v, e = .returned v ∧ Kd.R k27 27 w' w.heap.size (fun _ => True) v r ∧ Below w.heap.size w w' := by subst h; exact c_rkept A c l w hr hc hb n
theorem c_near' (a : Int) (x : S27) (b : Bool) (h : nearS l a = (x, b)) : Calls Try.prog 9 #[.slice A l.length c, .int .i64 a] w fun e w' => e = .returned (.tuple #[.agg (c27 x).toArray, .bool b]) ∧ Below w.heap.size w w' := by
  have := c_near A c l w hr hc hb a; rw [h] at this; exact this
theorem c_rnear' (a : Int) (x : S27) (b : Bool) (h : nearS l a = (x, b)) : Calls Try.prog 10 #[.slice A l.length c, .int .i64 a] w fun e w' => e = .returned (.tuple #[.agg (c27 x).toArray, .bool b]) ∧ Below w.heap.size w w' := by
  have := c_rnear A c l w hr hc hb a; rw [h] at this; exact this
theorem c_put' (m : S27) (r : List S27) (k : Int) (h : putS l m = (r, k)) : Calls Try.prog 23 #[.slice A l.length c, .agg (c27 m).toArray] w fun e w' => ∃ v, e = .returned (.tuple #[v, .int .i64 k]) ∧ Kd.R k27 27 w' w.heap.size (fun _ => True) v r ∧ Below w.heap.size w w' := by
  have := c_put A c l w hr hc hb m; rw [h] at this; exact this
theorem c_rput' (m : S27) (r : List S27) (k : Int) (h : putS l m = (r, k)) : Calls Try.prog 24 #[.slice A l.length c, .agg (c27 m).toArray] w fun e w' => ∃ v, e = .returned (.tuple #[v, .int .i64 k]) ∧ Kd.R k27 27 w' w.heap.size (fun _ => True) v r ∧ Below w.heap.size w w' := by
  have := c_rput A c l w hr hc hb m; rw [h] at this; exact this
end
theorem c_places' (n : Int) (r : List Int) (w : World) (h : placesS n = r) : Calls Try.prog 18 #[.int .i64 n] w fun e w' => ∃ v, e = .returned v ∧ Kd.R (Kd.int .i64) 3 w' w.heap.size (fun _ => True) v r ∧ Below w.heap.size w w' := by subst h; exact c_places n w
theorem c_rplaces' (n : Int) (r : List Int) (w : World) (h : placesS n = r) : Calls Try.prog 19 #[.int .i64 n] w fun e w' => ∃ v, e = .returned v ∧ Kd.R (Kd.int .i64) 3 w' w.heap.size (fun _ => True) v r ∧ Below w.heap.size w w' := by subst h; exact c_rplaces n w
set_option maxHeartbeats 8000000 in
set_option maxRecDepth 100000 in
theorem c_awake (w : World) : Calls Try.prog 22 #[] w fun e w' => e = .returned (.bool true) ∧ Below w.heap.size w w' := by
  obtain ⟨a1, Ea1⟩ : ∃ x : List Int, x = [8, 24] := ⟨_, rfl⟩
  obtain ⟨a2, Ea2⟩ : ∃ x : List Int, x = [8, 16] := ⟨_, rfl⟩
  obtain ⟨a3, Ea3⟩ : ∃ x : List Int, x = [16] := ⟨_, rfl⟩
  obtain ⟨m1, Em1⟩ : ∃ x : List S27, x = atS a1 := ⟨_, rfl⟩
  obtain ⟨x1, Ex1⟩ : ∃ x : S27, x = (nearS m1 23).1 := ⟨_, rfl⟩
  have HM1 := Aside0.mk (show atS a1 = m1 from by rw [Em1])
  have HN := Aside0.mk (show nearS m1 23 = (x1, true) from by rw [Ex1, Em1, Ea1]; rfl)
  have hx1 : (x1.f0 == 8) = true := by rw [Ex1, Em1, Ea1]; rfl
  have HP20 := Aside0.mk (show placesS 20 = a2 from by rw [Ea2]; rfl)
  have HMAY := Aside0.mk (show mayS m1 24 = 0 from by rw [Em1, Ea1]; rfl)
  have HMISS := Aside0.mk (show missS m1 30 = a3 from by rw [Em1, Ea1, Ea3]; rfl)
  have La1 := Aside0.mk (show a1.length ≤ 1000000 from by rw [Ea1]; decide)
  have La2 := Aside0.mk (show a2.length ≤ 1000000 from by rw [Ea2]; decide)
  have La3 := Aside0.mk (show a3.length ≤ 1000000 from by rw [Ea3]; decide)
  have Lm1 := Aside0.mk (show m1.length ≤ 1000000 from by rw [Em1, Ea1]; decide)
  have Ka1 := Aside0.mk Ea1
  have Ka2 := Aside0.mk Ea2
  have Ka3 := Aside0.mk Ea3
  clear Ea1 Ea2 Ea3 Em1 Ex1
  have HP := Aside0.mk (Hp.start w)
  go_enter Try.func22, Try.ntmps22
  go_wp2_with (first | ((with_reducible refine gate_dst (N := 4) rfl ?_); refine ev_lit (d := Kd.int .i64) HP.out 3 (xs := ([8, 24] : List Int)) (inner := ([8, 24] : List Int).map (Value.int .i64)) rfl (N := 4) rfl ?hr4 (reps_ints _ _ _ _) (by decide) ?_; (case hr4 => first | (go_simp; done) | (go_simp; rfl)); intro v_s1 wn1 hpn; rw [← Ka1.out] at hpn; clear HP; have HP := Aside0.mk hpn; clear hpn; obtain ⟨A_s1, c_s1, rfl⟩ := Kd.R_slice (HP.out.row 0 rfl)))
  (with_reducible refine (c_at' _ _ a1 m1 _ (Kd.R_reads' (HP.out.row 0 rfl)).2.2 (Kd.R_reads' (HP.out.row 0 rfl)).2.1 La1.out HM1.out).mono ?_); rintro e wn2 ⟨v, rfl, ho, hb⟩; have HPn := Aside0.mk (HP.out.newR hb ho); clear HP; have HP := HPn; clear HPn; obtain ⟨A_r1, c_r1, rfl⟩ := Kd.R_slice (HP.out.row 0 rfl); clear hb ho
  go_wp2_with fail
  (with_reducible refine (c_near' _ _ m1 _ (Kd.R_reads' (HP.out.row 0 rfl)).2.2 (Kd.R_reads' (HP.out.row 0 rfl)).2.1 Lm1.out 23 x1 true HN.out).mono ?_); rintro e wn3 ⟨rfl, hb⟩; have HPn := Aside0.mk (HP.out.call hb); clear HP; have HP := HPn; clear HPn; clear hb
  go_wp2_with (first | ((with_reducible refine gate_dst (N := 1) rfl ?_); refine ev_alloc rfl 27 rfl _ zero27 ?_; intro g_t1 wn4 hge hg hb; have HPn := Aside0.mk (HP.out.newB hb hg hge); clear HP; have HP := HPn; clear HPn; clear hge hg hb) | ((with_reducible refine gate_store (t := 27) (p := 1) rfl ?_); refine ev_store rfl 27 (.tmp 1) (.tmp 7) rfl rfl _ rfl (cells := (c27 x1).toArray) rfl (HP.out.blk 0 rfl) (hi27 _) rfl (one27 _) ?_; intro wn5 hg hgr; have HPn := Aside0.mk (HP.out.setB 0 rfl hgr hg); clear HP; have HP := HPn; clear HPn; have hc_t1_0 : wn5.cell? ⟨g_t1, 0, none⟩ = some (.int .i64 x1.f0) := blk_cell (HP.out.blk 0 rfl) 0; clear hg hgr))
  (with_reducible refine (c_places' 20 a2 _ HP20.out).mono ?_); rintro e wn6 ⟨v, rfl, ho, hb⟩; have HPn := Aside0.mk (HP.out.newR hb ho); clear HP; have HP := HPn; clear HPn; obtain ⟨A_p1, c_p1, rfl⟩ := Kd.R_slice (HP.out.row 0 rfl); clear hc_t1_0; have hc_t1_0 : wn6.cell? ⟨g_t1, 0, none⟩ = some (.int .i64 x1.f0) := blk_cell (HP.out.blk 1 rfl) 0; clear hb ho
  go_wp2_with (first | ((with_reducible refine gate_dst (N := 10) rfl ?_); refine ev_lit (d := Kd.int .i64) HP.out 3 (xs := ([8, 16] : List Int)) (inner := ([8, 16] : List Int).map (Value.int .i64)) rfl (N := 10) rfl ?hr10 (reps_ints _ _ _ _) (by decide) ?_; (case hr10 => first | (go_simp; done) | (go_simp; rfl)); intro v_s2 wn7 hpn; rw [← Ka2.out] at hpn; clear HP; have HP := Aside0.mk hpn; clear hpn; obtain ⟨A_s2, c_s2, rfl⟩ := Kd.R_slice (HP.out.row 0 rfl); clear hc_t1_0; have hc_t1_0 : wn7.cell? ⟨g_t1, 0, none⟩ = some (.int .i64 x1.f0) := blk_cell (HP.out.blk 2 rfl) 0))
  (with_reducible refine (c_sameI _ _ _ _ a2 _ (Kd.R_reads' (HP.out.row 1 rfl)).2.2 (Kd.R_reads' (HP.out.row 1 rfl)).2.1 La2.out (Kd.R_reads' (HP.out.row 0 rfl)).2.2 (Kd.R_reads' (HP.out.row 0 rfl)).2.1).mono ?_); rintro e wn8 ⟨rfl, hb⟩; have HPn := Aside0.mk (HP.out.call hb); clear HP; have HP := HPn; clear HPn; clear hc_t1_0; have hc_t1_0 : wn8.cell? ⟨g_t1, 0, none⟩ = some (.int .i64 x1.f0) := blk_cell (HP.out.blk 2 rfl) 0; clear hb
  go_wp2_with (first | ((with_reducible refine gate_dst (N := 21) rfl ?_); refine ev_lit (d := Kd.int .i64) HP.out 3 (xs := ([8, 24] : List Int)) (inner := ([8, 24] : List Int).map (Value.int .i64)) rfl (N := 21) rfl ?hr21 (reps_ints _ _ _ _) (by decide) ?_; (case hr21 => first | (go_simp; done) | (go_simp; rfl)); intro v_s3 wn9 hpn; rw [← Ka1.out] at hpn; clear HP; have HP := Aside0.mk hpn; clear hpn; obtain ⟨A_s3, c_s3, rfl⟩ := Kd.R_slice (HP.out.row 0 rfl); clear hc_t1_0; have hc_t1_0 : wn9.cell? ⟨g_t1, 0, none⟩ = some (.int .i64 x1.f0) := blk_cell (HP.out.blk 3 rfl) 0))
  (with_reducible refine (c_at' _ _ a1 m1 _ (Kd.R_reads' (HP.out.row 0 rfl)).2.2 (Kd.R_reads' (HP.out.row 0 rfl)).2.1 La1.out HM1.out).mono ?_); rintro e wn10 ⟨v, rfl, ho, hb⟩; have HPn := Aside0.mk (HP.out.newR hb ho); clear HP; have HP := HPn; clear HPn; obtain ⟨A_r2, c_r2, rfl⟩ := Kd.R_slice (HP.out.row 0 rfl); clear hc_t1_0; have hc_t1_0 : wn10.cell? ⟨g_t1, 0, none⟩ = some (.int .i64 x1.f0) := blk_cell (HP.out.blk 4 rfl) 0; clear hb ho
  go_wp2_with fail
  (with_reducible refine (c_may' _ _ m1 _ (Kd.R_reads' (HP.out.row 0 rfl)).2.2 (Kd.R_reads' (HP.out.row 0 rfl)).2.1 24 0 HMAY.out).mono ?_); rintro e wn11 ⟨rfl, hb⟩; have HPn := Aside0.mk (HP.out.call hb); clear HP; have HP := HPn; clear HPn; clear hc_t1_0; have hc_t1_0 : wn11.cell? ⟨g_t1, 0, none⟩ = some (.int .i64 x1.f0) := blk_cell (HP.out.blk 4 rfl) 0; clear hb
  go_wp2_with (first | ((with_reducible refine gate_dst (N := 27) rfl ?_); refine ev_lit (d := Kd.int .i64) HP.out 3 (xs := ([8, 24] : List Int)) (inner := ([8, 24] : List Int).map (Value.int .i64)) rfl (N := 27) rfl ?hr27 (reps_ints _ _ _ _) (by decide) ?_; (case hr27 => first | (go_simp; done) | (go_simp; rfl)); intro v_s4 wn12 hpn; rw [← Ka1.out] at hpn; clear HP; have HP := Aside0.mk hpn; clear hpn; obtain ⟨A_s4, c_s4, rfl⟩ := Kd.R_slice (HP.out.row 0 rfl); clear hc_t1_0; have hc_t1_0 : wn12.cell? ⟨g_t1, 0, none⟩ = some (.int .i64 x1.f0) := blk_cell (HP.out.blk 5 rfl) 0))
  (with_reducible refine (c_at' _ _ a1 m1 _ (Kd.R_reads' (HP.out.row 0 rfl)).2.2 (Kd.R_reads' (HP.out.row 0 rfl)).2.1 La1.out HM1.out).mono ?_); rintro e wn13 ⟨v, rfl, ho, hb⟩; have HPn := Aside0.mk (HP.out.newR hb ho); clear HP; have HP := HPn; clear HPn; obtain ⟨A_r3, c_r3, rfl⟩ := Kd.R_slice (HP.out.row 0 rfl); clear hc_t1_0; have hc_t1_0 : wn13.cell? ⟨g_t1, 0, none⟩ = some (.int .i64 x1.f0) := blk_cell (HP.out.blk 6 rfl) 0; clear hb ho
  go_wp2_with fail
  (with_reducible refine (c_miss' _ _ m1 _ (Kd.R_reads' (HP.out.row 0 rfl)).2.2 (Kd.R_reads' (HP.out.row 0 rfl)).2.1 30 a3 HMISS.out).mono ?_); rintro e wn14 ⟨v, rfl, ho, hb⟩; have HPn := Aside0.mk (HP.out.newR hb ho); clear HP; have HP := HPn; clear HPn; obtain ⟨A_p2, c_p2, rfl⟩ := Kd.R_slice (HP.out.row 0 rfl); clear hc_t1_0; have hc_t1_0 : wn14.cell? ⟨g_t1, 0, none⟩ = some (.int .i64 x1.f0) := blk_cell (HP.out.blk 7 rfl) 0; clear hb ho
  go_wp2_with (first | ((with_reducible refine gate_dst (N := 30) rfl ?_); refine ev_lit (d := Kd.int .i64) HP.out 3 (xs := ([16] : List Int)) (inner := ([16] : List Int).map (Value.int .i64)) rfl (N := 30) rfl ?hr30 (reps_ints _ _ _ _) (by decide) ?_; (case hr30 => first | (go_simp; done) | (go_simp; rfl)); intro v_s5 wn15 hpn; rw [← Ka3.out] at hpn; clear HP; have HP := Aside0.mk hpn; clear hpn; obtain ⟨A_s5, c_s5, rfl⟩ := Kd.R_slice (HP.out.row 0 rfl); clear hc_t1_0; have hc_t1_0 : wn15.cell? ⟨g_t1, 0, none⟩ = some (.int .i64 x1.f0) := blk_cell (HP.out.blk 8 rfl) 0))
  (with_reducible refine (c_sameI _ _ _ _ a3 _ (Kd.R_reads' (HP.out.row 1 rfl)).2.2 (Kd.R_reads' (HP.out.row 1 rfl)).2.1 La3.out (Kd.R_reads' (HP.out.row 0 rfl)).2.2 (Kd.R_reads' (HP.out.row 0 rfl)).2.1).mono ?_); rintro e wn16 ⟨rfl, hb⟩; have HPn := Aside0.mk (HP.out.call hb); clear HP; have HP := HPn; clear HPn; clear hc_t1_0; have hc_t1_0 : wn16.cell? ⟨g_t1, 0, none⟩ = some (.int .i64 x1.f0) := blk_cell (HP.out.blk 8 rfl) 0; clear hb
  go_wp2_with fail
  go_ret
  exact ⟨rfl, HP.out.below⟩
end Go.Proofs.Ytgippbgcmmjnbaa.Ct
