-- Printed by xprint.py (a program of this work, over the kit's print.py). Lean checks it.
import Derived.Test.YtobleaodacnpiaaXE0
namespace Go.Proofs.Ytobleaodacnpiaa.XE
open Go.RowKit Go.Proofs.YtobleaodacnpiaaW.PrintWords Go.Proofs.YtobleaodacnpiaaW.PrintLast Go.Proofs.YtobleaodacnpiaaW.PrintMore
attribute [local go_sem] max2_int min2_int max_two min_two max_three min_three max_four min_four   -- for this text's walks alone
set_option linter.unusedVariables false
set_option linter.unusedSimpArgs false

/-! ### extent_end: function 33 -/
def extent_end.f (a0_0 : Int) (a0_1 : Int) : Option (Int) := some (wrap64 (a0_0 + a0_1))
set_option maxHeartbeats 8000000 in
set_option maxRecDepth 100000 in
theorem extent_end.calls (a0_0 : Int) (a0_1 : Int) (r : Int) (w : World) (h : extent_end.f a0_0 a0_1 = some r) :
    Calls Try.prog 33 #[.agg #[.int .i64 a0_0, .int .i64 a0_1]] w fun e w' => e = .returned (.int .i64 r) ∧ Below w.heap.size w w' := by
  have hu42 := Try.underlying42
  have HB := Aside0.mk (Below.refl w.heap.size w)
  have H : (some (wrap64 (a0_0 + a0_1))) = some r := h
  clear h
  obtain rfl := Option.some.inj H
  go_enter Try.func33, Try.ntmps33
  go_wp2_with (first | ((with_reducible refine gate_dst (N := 1) rfl ?_); refine box_event ?hg (N := 1) ?hd (cs := #[.int .i64 a0_0, .int .i64 a0_1]) (t := 42) ?hr ?_; (case hd => rfl); (case hg => rfl); (case hr => first | (go_simp; done) | (go_simp; rfl)); intro gb101 hg w2 hbox hb; have n0_ := Aside0.mk (below_step (by repeat (first | (with_reducible first | exact HB.out | apply below_alloc | apply pw_below_drewN | apply below_drew1) | exact HB.out)) hb); have n1_ := Aside0.mk (hbox); have n2_ := Aside0.mk ((by rw [hg]; exact (below_size (by repeat (first | (with_reducible first | exact HB.out | apply below_alloc | apply pw_below_drewN | apply below_drew1) | exact HB.out))) : w.heap.size ≤ gb101)); have n3_ := Aside0.mk ((by rw [hg]; exact (below_size (by repeat (first | (with_reducible first | exact HB.out | apply below_alloc | apply pw_below_drewN | apply below_drew1) | exact HB.out))) : w.heap.size ≤ gb101)); clear HB; have HB := n0_; have BK101 := n1_; have GW101 := n2_; have GE101 := n3_; clear n0_ n1_ n2_ n3_; clear hb hbox hg; have hcz3_0 : w2.cell? ⟨gb101, 0, none⟩ = some (.int .i64 a0_0) := (blk_cell BK101.out 0).trans rfl; have hcz3_1 : w2.cell? ⟨gb101, 1, none⟩ = some (.int .i64 a0_1) := (blk_cell BK101.out 1).trans rfl; have hfz3_0 := blk_frozen BK101.out 0; have hfz3_1 := blk_frozen BK101.out 1))
  go_ret
  exact ⟨by first | rfl | (simp [errW_none, errW_some] <;> rfl) | (simp [*, errW_none, errW_some] <;> rfl), by repeat (first | (with_reducible first | exact HB.out | apply below_alloc | apply pw_below_drewN | apply below_drew1 | refine below_set ?_ GE101.out) | exact HB.out)⟩

/-! ### slices_Delete: function 37 -/
theorem slices_Delete.info : (Try.prog.info? 42).map (fun i => (i.zero, i.size, i.bytes)) = some (some (.agg #[(.int .i64 0), (.int .i64 0)]), 2, 16) := by kernel_rfl
def slices_Delete.f (l0 : List (S42)) (a1 a2 : Int) : Option (List (S42)) := if 0 ≤ a1 ∧ a1 < l0.length ∧ a2 = a1 + 1 then some (l0.eraseIdx a1.toNat) else none
set_option maxHeartbeats 8000000 in
set_option maxRecDepth 100000 in
theorem slices_Delete.calls (P0_ : Nat → Prop) (u9000_ : Value) (l0 : List (S42)) (a1 a2 : Int) (r : List (S42)) (w0 w : World) (hB : Below w0.heap.size w0 w) (ho0 : Kd.R k42 42 w w0.heap.size P0_ u9000_ l0) (h : slices_Delete.f l0 a1 a2 = some r) :
    Calls Try.prog 37 #[u9000_, .int .i64 a1, .int .i64 a2] w fun e w' => ∃ v0_ : Value, e = .returned v0_ ∧ Kd.R k42 42 w' w0.heap.size (fun k_ => (P0_ k_ ∨ w.heap.size ≤ k_)) v0_ r ∧ Below w0.heap.size w0 w' ∧ Kept w w' (fun k_ => P0_ k_) := by
  unfold slices_Delete.f at h
  split at h
  case isFalse => exact absurd h (by simp)
  rename_i hc
  obtain ⟨h0, h1, rfl⟩ := hc
  obtain rfl := Option.some.inj h
  clear h
  obtain ⟨i, rfl⟩ := Int.eq_ofNat_of_zero_le h0
  have hi : i < l0.length := by omega
  obtain ⟨A, c, rfl, hlc, hC⟩ := Kd.R_reads ho0
  have hm : l0.length ≤ 9223372036854775807 := hC.2.1
  obtain ⟨g, rfl⟩ : ∃ g, A = some ⟨g, 0, none⟩ := by
    rcases ho0.2 with ⟨inner, hown, _⟩
    rcases hown.2 with ⟨hv, _⟩ | ⟨g, cap, cur, hv, _⟩
    · injection hv with e1 e2 e3
      omega
    · injection hv with e1 e2 e3
      exact ⟨g, e1⟩
  have hP : P0_ g := ho0.1 g (by simp [Value.ownBlock])
  have HO := Aside0.mk ho0
  have HB := Aside0.mk hB
  have HP := Aside0.mk hP
  have HL := Aside0.mk hlc
  clear ho0 hB hP hC
  have hcm : c ≤ 9223372036854775807 := by
    rcases HO.out.2 with ⟨inner, hown, _⟩
    rcases hown.2 with ⟨hv, _⟩ | ⟨g, cap, cur, hv, _, _, _, h5, _⟩
    · injection hv with e1 e2 e3; omega
    · injection hv with e1 e2 e3
      subst e3
      simpa [maxLen] using h5
  have hne : ((i : Int) == (i : Int) + 1) = false := by simp; omega
  have hlc' : l0.length ≤ c := HL.out
  have k1 : (i : Int) ≤ (c : Int) := by omega
  have k2 : (i : Int) + 1 ≤ (l0.length : Int) := by omega
  have k3 : ((i : Int) + 1).toNat = i + 1 := by omega
  have k4 : (0 : Int) ≤ (i : Int) + 1 := by omega
  have k5 : (i : Int) ≤ (i : Int) + 1 := by omega
  have hsz := Aside0.mk (below_size HB.out)
  by_cases hci : c = i + 1
  · obtain rfl := hci
    go_enter Try.func37, Try.ntmps37
    go_wp2_with fail
    go_still_tail 6, (by kernel_rfl)
    change wpList _ _ _ _ _ w.drew
    refine Kd.R_delete (w0 := w0) k42 w0.heap.size rfl (.tmp 22) (.tmp 25) 44 42 rfl Try.underlying44 (by kernel_rfl) rfl rfl (by simp) (by omega) (Kd.R_drew HO.out) hi (below_drew HB.out) hsz.out ?_
    intro w1 ho hb hg
    have HO1 := Aside0.mk ho
    have HB1 := Aside0.mk hb
    have HK := Aside0.mk (Kept.of_grown (w := w) (S := P0_) hg (Kept.drew (Kept.refl w P0_)) (fun k hk => by injection hk with hk; subst hk; exact .inl HP.out))
    have HG := Aside0.mk hg
    clear ho hb hg
    go_wp2_with (refine Xw.R_clear (w0 := w0) k42 w0.heap.size rfl (.tmp 31) 44 42 (.agg #[(.int .i64 0), (.int .i64 0)]) 16 rfl Try.underlying44 slices_Delete.info rfl (by decide) rfl (fun _ => by rw [Xw.tail_at]; rfl) (by omega) HO1.out HB1.out (Nat.le_trans hsz.out HG.out.size) ?_; intro w2 ho hb hg; have HO2 := Aside0.mk ho; have HB2 := Aside0.mk hb; have HK2 := Aside0.mk (Kept.of_grown (S := P0_) hg HK.out (fun k hk => by injection hk with hk; subst hk; exact .inl HP.out)); clear ho hb hg)
    go_ret
    exact ⟨_, rfl, Kd.R_mono HO2.out (fun k hk => .inl hk), HB2.out, HK2.out⟩
  · go_enter Try.func37, Try.ntmps37
    go_wp2_with fail
    go_still_tail 6, (by kernel_rfl)
    change wpList _ _ _ _ _ w.drew
    refine Kd.R_delete (w0 := w0) k42 w0.heap.size rfl (.tmp 22) (.tmp 25) 44 42 rfl Try.underlying44 (by kernel_rfl) rfl rfl (by rw [if_neg hci, Xw.tail_at]; rfl) rfl (Kd.R_drew HO.out) hi (below_drew HB.out) hsz.out ?_
    intro w1 ho hb hg
    have HO1 := Aside0.mk ho
    have HB1 := Aside0.mk hb
    have HK := Aside0.mk (Kept.of_grown (w := w) (S := P0_) hg (Kept.drew (Kept.refl w P0_)) (fun k hk => by injection hk with hk; subst hk; exact .inl HP.out))
    have HG := Aside0.mk hg
    clear ho hb hg
    go_wp2_with (refine Xw.R_clear (w0 := w0) k42 w0.heap.size rfl (.tmp 31) 44 42 (.agg #[(.int .i64 0), (.int .i64 0)]) 16 rfl Try.underlying44 slices_Delete.info rfl (by decide) rfl (fun _ => by rw [Xw.tail_at]; rfl) (by omega) HO1.out HB1.out (Nat.le_trans hsz.out HG.out.size) ?_; intro w2 ho hb hg; have HO2 := Aside0.mk ho; have HB2 := Aside0.mk hb; have HK2 := Aside0.mk (Kept.of_grown (S := P0_) hg HK.out (fun k hk => by injection hk with hk; subst hk; exact .inl HP.out)); clear ho hb hg)
    go_ret
    exact ⟨_, rfl, Kd.R_mono HO2.out (fun k hk => .inl hk), HB2.out, HK2.out⟩

/-! ### slices_Clone_38: function 38 -/
theorem slices_Clone_38.info : (Try.prog.info? 42).map (fun i => (i.zero, i.size, i.bytes)) = some (some (.agg #[(.int .i64 0), (.int .i64 0)]), 2, 16) := by kernel_rfl
def slices_Clone_38.f (l0 : List (S42)) : Option (List (S42)) := if l0.length < 8796093022208 then some l0 else none
set_option maxHeartbeats 8000000 in
set_option maxRecDepth 100000 in
theorem slices_Clone_38.calls (A0 : Option Addr) (c0 : Nat) (l0 : List (S42)) (r : List (S42)) (w : World) (hr0 : Kd.C k42 w A0 l0.length l0) (hc0 : l0.length ≤ c0) (h : slices_Clone_38.f l0 = some r) :
    Calls Try.prog 38 #[.slice A0 l0.length c0] w fun e w' => ∃ v0_ : Value, e = .returned (v0_) ∧ Kd.R k42 42 w' w.heap.size (fun _ => True) v0_ r ∧ Below w.heap.size w w' := by
  unfold slices_Clone_38.f at h
  split at h
  case isFalse => exact absurd h (by simp)
  rename_i hlim
  obtain rfl := Option.some.inj h
  clear h
  have HR0 := Aside0.mk hr0
  have HC0 := Aside0.mk hc0
  have LM := Aside0.mk hlim
  clear hr0 hc0 hlim
  have HB := Aside0.mk (Below.refl w.heap.size w)
  cases A0 with
  | none =>
    have e0 : l0 = [] := by
      rcases l0 with _ | ⟨x, l⟩
      · rfl
      · obtain ⟨_, e, _⟩ := HR0.out.2.2 (by simp)
        cases e
    subst e0
    have hq := fun w_ => Lib.run_eql_slice_nil (P := Try.prog) w_ 44 42 none 0 c0 0 0 Try.underlying44
    go_enter Try.func38, Try.ntmps38
    go_wp2
    go_ret
    exact ⟨_, rfl, Kd.R_nil _ _ _ _ _, HB.out⟩
  | some a =>
    have hq := fun w_ => Lib.run_eql_slice_nil (P := Try.prog) w_ 44 42 (some a) l0.length c0 0 0 Try.underlying44
    go_enter Try.func38, Try.ntmps38
    go_wp2_with (first | ((with_reducible refine gate_dst (N := 5) rfl ?_); refine Kd.R_lit k42 _ 42 ?hg (N := 5) ?hd (xs := ([] : List (S42))) (inner := []) (ok := fun _ => True) (okp := fun _ => True) ?hr ?hp (fun _ hk => hk) trivial (Below.refl _ _) (Nat.le_refl _) (by simp) ?_; (case hd => rfl); (case hg => rfl); (case hr => first | (go_simp; done) | (go_simp; rfl)); (case hp => exact (Reps.none _ _)); intro v148 w3 ho4 hb hg_ hnew_; clear hg_ hnew_; have n0_ := Aside0.mk (Kd.R_lower ho4 (below_size HB.out)); have n1_ := Aside0.mk (below_step HB.out hb); clear HB; have HO149 := n0_; have HB := n1_; clear n0_ n1_; clear hb ho4) | ((with_reducible refine gate_builtin (b := .append) (xs := #[.tmp 5, .tmp 6]) rfl ?_); at_builtin; refine Kd.R_append_rows k42 (w0 := w) w.heap.size rfl (.tmp 5) (.tmp 6) 44 42 (.agg #[(.int .i64 0), (.int .i64 0)]) 16 rfl Try.underlying44 slices_Clone_38.info rfl (by decide) (by omega) v148 [] l0 _ _ _ (fun _ => True) (fun _ => False) rfl rfl ?aO ?aR (fun _ _ h => h) (fun _ h => h.elim) ?aF ?aB ?aS ?aL ?_; (case aR => exact (Kd.C_below HR0.out HB.out)); (case aB => exact HB.out); (case aF => exact (fun _ _ => trivial)); (case aO => exact HO149.out); (case aS => exact (below_size HB.out)); (case aL => have := LM.out; simp; omega); intro v151 w5 ho hb hg hat; have n0_ := Aside0.mk (hb); have n1_ := Aside0.mk (ho); clear HB; clear HO149; have HB := n0_; have HO152 := n1_; clear n0_ n1_; clear ho hb hg hat))
    go_ret
    exact ⟨_, rfl, HO152.out, HB.out⟩

/-! ### slices_Insert: function 39 -/
theorem slices_Insert.info : (Try.prog.info? 42).map (fun i => (i.zero, i.size, i.bytes)) = some (some (.agg #[(.int .i64 0), (.int .i64 0)]), 2, 16) := by kernel_rfl
def slices_Insert.f (l0 : List (S42)) (a1 : Int) (l2 : List (S42)) : Option (List (S42)) := if 0 ≤ a1 ∧ a1 ≤ l0.length ∧ l0.length + l2.length < 8796093022208 then some (l0.take a1.toNat ++ (l2 ++ l0.drop a1.toNat)) else none
set_option maxHeartbeats 8000000 in
set_option maxRecDepth 100000 in
theorem slices_Insert.calls (P0_ : Nat → Prop) (u9000_ : Value) (l0 : List (S42)) (a1 : Int) (A2 : Option Addr) (c2 : Nat) (l2 : List (S42)) (r : List (S42)) (w0 w : World) (hB : Below w0.heap.size w0 w) (ho0 : Kd.R k42 42 w w0.heap.size P0_ u9000_ l0) (hr2 : ∀ W_, Kept w W_ (fun k_ => P0_ k_) → Kd.C k42 W_ A2 l2.length l2) (hc2 : l2.length ≤ c2) (h : slices_Insert.f l0 a1 l2 = some r) :
    Calls Try.prog 39 #[u9000_, .int .i64 a1, .slice A2 l2.length c2] w fun e w' => ∃ v0_ : Value, e = .returned v0_ ∧ Kd.R k42 42 w' w0.heap.size (fun k_ => (P0_ k_ ∨ w.heap.size ≤ k_)) v0_ r ∧ Below w0.heap.size w0 w' ∧ Kept w w' (fun k_ => P0_ k_) := by
  unfold slices_Insert.f at h
  split at h
  case isFalse => exact absurd h (by simp)
  rename_i hc
  obtain ⟨h0, h1, hlim⟩ := hc
  obtain rfl := Option.some.inj h
  clear h
  obtain ⟨i, rfl⟩ := Int.eq_ofNat_of_zero_le h0
  have hi : i ≤ l0.length := by omega
  obtain ⟨A, c, rfl, hlc, hC⟩ := Kd.R_reads ho0
  have hC2 := hr2 w (Kept.refl w _)
  have HB := Aside0.mk hB
  have HO := Aside0.mk ho0
  have HR2 := Aside0.mk hr2
  have hm : l0.length ≤ 9223372036854775807 := hC.2.1
  have hm2 : l2.length ≤ 9223372036854775807 := hC2.2.1
  have hlc' : l0.length ≤ c := hlc
  have hcm : c ≤ 9223372036854775807 := by
    rcases ho0.2 with ⟨inner, hown, _⟩
    rcases hown.2 with ⟨hv, _⟩ | ⟨g, cap, cur, hv, _, _, _, h5, _⟩
    · injection hv with e1 e2 e3; omega
    · injection hv with e1 e2 e3
      subst e3
      simpa [maxLen] using h5
  have k1 : (i : Int) ≤ (l0.length : Int) := h1
  have k2 : (i : Int) ≤ (c : Int) := by omega
  clear hB ho0 hr2 hC hC2
  simp only [Int.toNat_natCast]
  have hsz := Aside0.mk (below_size HB.out)
  by_cases hl2 : l2.length = 0
  · obtain rfl := List.eq_nil_of_length_eq_zero hl2
    have e1 : l0.take i ++ ([] ++ l0.drop i) = l0 := by simp
    rw [e1]
    clear hl2 e1
    by_cases hci : c = i
    · obtain rfl := hci
      go_enter Try.func39, Try.ntmps39
      go_wp2
      go_ret
      exact ⟨_, rfl, Kd.R_mono HO.out (fun k hk => .inl hk), HB.out, Kept.refl w _⟩
    · go_enter Try.func39, Try.ntmps39
      go_wp2
      go_ret
      exact ⟨_, rfl, Kd.R_mono HO.out (fun k hk => .inl hk), HB.out, Kept.refl w _⟩
  · have hz2 : ((l2.length : Int) == 0) = false := by rw [beq_eq_false_iff_ne]; omega
    by_cases hin : i = l0.length
    · obtain rfl := hin
      have e1 : l0.take l0.length ++ (l2 ++ l0.drop l0.length) = l0 ++ l2 := by simp
      rw [e1]
      clear e1 hl2
      have hlen : (l0.length + l2.length) * 16 ≤ 140737488355328 := by omega
      have hq : ((l0.length : Int) == (l0.length : Int)) = true := by simp
      by_cases hci : c = l0.length
      · obtain rfl := hci
        go_enter Try.func39, Try.ntmps39
        go_wp2_with (at_builtin; refine Xw.append_rows2 k42 (fun h => h) (w0 := w0) w0.heap.size rfl (.tmp 23) (.tmp 24) 44 22 42 42 (.agg #[(.int .i64 0), (.int .i64 0)]) 16 rfl Try.underlying44 Try.underlying22 slices_Insert.info rfl (by decide) (by decide) _ l0 l2 _ _ _ (fun k_ => (P0_ k_ ∨ w.heap.size ≤ k_)) rfl rfl (Kd.R_mono HO.out (fun k hk => .inl hk)) (HR2.out w (Kept.refl w _)) (fun _ h => .inr h) HB.out hsz.out hlen ?_; intro v151 w5 ho hb hg; have HB1 := Aside0.mk (hb); have HO1 := Aside0.mk (ho); have HK1 := Aside0.mk (Kept.of_grown (w := w) (S := P0_) hg (Kept.refl w P0_) (fun k hk => .inl (HO.out.1 k hk))); clear ho hb hg)
        go_ret
        exact ⟨_, rfl, HO1.out, HB1.out, HK1.out⟩
      · go_enter Try.func39, Try.ntmps39
        go_wp2_with (at_builtin; refine Xw.append_rows2 k42 (fun h => h) (w0 := w0) w0.heap.size rfl (.tmp 23) (.tmp 24) 44 22 42 42 (.agg #[(.int .i64 0), (.int .i64 0)]) 16 rfl Try.underlying44 Try.underlying22 slices_Insert.info rfl (by decide) (by decide) _ l0 l2 _ _ _ (fun k_ => (P0_ k_ ∨ w.heap.size ≤ k_)) rfl rfl (Kd.R_mono HO.out (fun k hk => .inl hk)) (HR2.out w (Kept.refl w _)) (fun _ h => .inr h) HB.out hsz.out hlen ?_; intro v151 w5 ho hb hg; have HB1 := Aside0.mk (hb); have HO1 := Aside0.mk (ho); have HK1 := Aside0.mk (Kept.of_grown (w := w) (S := P0_) hg (Kept.refl w P0_) (fun k hk => .inl (HO.out.1 k hk))); clear ho hb hg)
        go_ret
        exact ⟨_, rfl, HO1.out, HB1.out, HK1.out⟩
    · have hiq : ((i : Int) == (l0.length : Int)) = false := by rw [beq_eq_false_iff_ne]; omega
      have hilt : i < l0.length := by omega
      have hcine : ¬ c = i := by omega
      obtain ⟨hok, inner, hown, hrep⟩ := HO.out
      rcases hown.2 with ⟨hv, h00⟩ | ⟨g, cap, cur, hv, hbg, hh, hle, hcm', hcs, htake⟩
      · injection hv with e1 e2 e3
        omega
      injection hv with e1 e2 e3
      subst e1 e3
      have hin0 : inner.length = l0.length * k42.sz := hrep.1
      obtain ⟨ad, rfl⟩ : ∃ ad, A2 = some ad := by
        obtain ⟨ad, e, _⟩ := (HR2.out w (Kept.refl w _)).2.2 (by omega)
        exact ⟨ad, e⟩
      have hap := Xw.apart_of HR2.out (by omega) (by decide)
      obtain ⟨news, hnr, hnc⟩ := ReadsRow.inner_ (HR2.out w (Kept.refl w _))
      have hone2 : ∀ u ∈ news, u.oneCell' = true := Xw.one_of_reps k42 (by decide) hnr
      have hone1 : ∀ u ∈ inner, u.oneCell' = true := Xw.one_of_reps k42 (by decide) (hrep.imp_ (fun _ _ h => k42.K_of_M h))
      have hcell : ∀ j u, inner[j]? = some u → w.cell? ⟨g, j, none⟩ = some u := by
        intro j u hu
        rw [cell_of_row w g j cur 42 (0, 0) hh, ← Array.getElem?_toList]
        rw [← htake, List.getElem?_take] at hu
        split at hu
        · exact hu
        · cases hu
      have HCELL := Aside0.mk hcell
      clear hcell
      have hrepK := hrep.imp_ (fun _ _ h => k42.K_of_M h)
      have hnl : news.length = l2.length * 2 := hnr.1
      have hil : inner.length = l0.length * 2 := hin0
      have hcs2 : cur.size = c * 2 := hcs
      have htk2 : cur.toList.take (l0.length * 2) = inner := htake
      have hhx := Aside0.mk hh
      have HAP := Aside0.mk hap
      have HNR := Aside0.mk hnr
      have HNC := Aside0.mk hnc
      have HON2 := Aside0.mk hone2
      have HON1 := Aside0.mk hone1
      have HRK := Aside0.mk hrepK
      have HIL := Aside0.mk hil
      have HNL := Aside0.mk hnl
      have HCS := Aside0.mk hcs2
      have HTK := Aside0.mk htk2
      have HOK := Aside0.mk (hok g (by simp [Value.ownBlock]))
      have HBG := Aside0.mk hbg
      have HCM := Aside0.mk hcm'
      clear hh hap hnr hnc hone2 hone1 hrepK hil hnl hcs2 htk2 hok hbg hcm' hcs htake hown hrep hin0 hin hl2 hle HO
      by_cases hgr : c < l0.length + l2.length
      · have hgi : (c : Int) < (l0.length : Int) + (l2.length : Int) := by omega
        have hk5 : (i : Int) ≤ (l0.length : Int) + (l2.length : Int) := by omega
        go_enter Try.func39, Try.ntmps39
        go_wp2_with (at_builtin; refine Xw.zeros_grow rfl (.tmp 34) (.tmp 39) 44 3 42 (.agg #[(.int .i64 0), (.int .i64 0)]) 2 16 rfl Try.underlying44 Try.underlying3 slices_Insert.info rfl (by decide) (by decide) (by decide) rfl rfl rfl (m := l0.length + l2.length - i) ?hx1 (inner.take (i * 2)) ?hx2 ?hx3 ?hx4 ?hx5 ?hx6 ?_)
        case hx1 => omega
        case hx2 => have := HIL.out; exact Nat.min_eq_left (by omega)
        case hx3 =>
          intro j u hu
          rw [List.getElem?_take] at hu
          split at hu
          · exact HCELL.out j u hu
          · cases hu
        case hx4 => omega
        case hx5 => omega
        case hx6 => omega
        intro w1 cap1 cur1 hh1 hs1 hle1 hcm1 htk1 hg1 hlt1
        have e1 : i + (l0.length + l2.length - i) = l0.length + l2.length := by omega
        rw [e1] at hle1 ⊢
        have HH1 := Aside0.mk hh1
        have HS1 := Aside0.mk hs1
        have HTK1 := Aside0.mk htk1
        have HG1 := Aside0.mk hg1
        have HCM1 := Aside0.mk hcm1
        have hcap1 : cap1 ≤ 9223372036854775807 := by simpa [maxLen] using hcm1
        have hne1 : ¬ cap1 = i := by omega
        have hne2 : ¬ cap1 = i + l2.length := by omega
        have hk6 : (l0.length : Int) + (l2.length : Int) ≤ (cap1 : Int) := by omega
        have hk8 : (0 : Int) ≤ (i : Int) + (l2.length : Int) := by omega
        have hk9 : ((i : Int) + (l2.length : Int)).toNat = i + l2.length := by omega
        have hk10 : IntKind.i64.wrap ((i : Int) + (l2.length : Int)) = (i : Int) + (l2.length : Int) := IntWalk.i64_in _ (by omega)
        have hk7 : (i : Int) + (l2.length : Int) ≤ (l0.length : Int) + (l2.length : Int) := by omega
        have HLT1 := Aside0.mk hlt1
        have HLTG := Aside0.mk (show g < w.heap.size from (Array.getElem?_eq_some_iff.1 hhx.out).1)
        have HHX1 := Aside0.mk ((hg1.block g HLTG.out (by simp)).trans hhx.out)
        have HK1 := Aside0.mk (Kept.of_grown (w := w) (S := P0_) hg1 (Kept.refl w P0_) (fun k hk => by cases hk))
        have HB1 := Aside0.mk (HB.out.grown hg1 hsz.out (fun k hk => by cases hk))
        clear hh1 hs1 htk1 hg1 hcm1 e1 hlt1
        go_wp2_with (with_reducible refine Xw.copy_cells rfl (.tmp 43) (.tmp 44) 44 22 42 2 rfl Try.underlying44 ?hy0 (g := w.heap.size) (off := i * 2) rfl rfl (m := l2.length) ?hy1 news ?hy2 rfl ?hy3 ?hy4 42 cur1 HH1.out ?hy5 HON2.out ?_)
        case hy0 => kernel_rfl
        case hy1 => exact Nat.min_eq_left (by omega)
        case hy2 => rfl
        case hy3 => exact HNL.out
        case hy4 => intro j u hu; exact cell_kept (HNC.out j u hu) HK1.out (by rw [Xw.add_block]; exact HAP.out)
        case hy5 => have := HNL.out; have := HS1.out; omega
        intro w2 cur2 hh2 hs2 ht2 hg2
        have HH2 := Aside0.mk hh2
        have HS2 := Aside0.mk hs2
        have HT2 := Aside0.mk ht2
        have HHX2 := Aside0.mk ((hg2.block g (by have := HLT1.out; have := HLTG.out; omega) (by have := HLTG.out; simp; omega)).trans HHX1.out)
        have HK2 := Aside0.mk (Kept.of_grown hg2 HK1.out (fun k hk => by injection hk with hk; exact .inr (by omega)))
        have HB2 := Aside0.mk (HB1.out.grown hg2 (Nat.le_trans hsz.out (Nat.le_of_lt HLT1.out)) (fun k hk => by injection hk with hk; have := hsz.out; omega))
        clear hh2 hs2 ht2 hg2
        go_wp2_with fail
        go_still_tail 8, (by kernel_rfl)
        change wpList _ _ _ _ _ w2.drew
        clear hk8 hk9 hk10
        refine Xw.copy_cells rfl (.tmp 50) (.tmp 53) 44 44 42 2 rfl Try.underlying44 (by kernel_rfl) (g := w.heap.size) (off := (i + l2.length) * 2) rfl rfl (m := l0.length - i) (Nat.min_eq_left (by omega)) (inner.drop (i * 2)) rfl rfl ?hz1 ?hz2 42 cur2 HH2.out ?hz3 ?hz4 ?_
        case hz1 => have := HIL.out; rw [List.length_drop]; omega
        case hz2 =>
          intro j u hu
          have h1 : (w2.drew).heap[g]? = some (.cells cur 42 (0, 0)) := HHX2.out
          rw [List.getElem?_drop] at hu
          have hT := HTK.out
          rw [← hT, List.getElem?_take] at hu
          split at hu
          · rw [add_at, cell_of_row _ g _ cur 42 (0, 0) h1, ← Array.getElem?_toList]
            exact hu
          · cases hu
        case hz3 => have := HIL.out; have := HS2.out; have := HS1.out; rw [List.length_drop]; omega
        case hz4 => intro u hu; exact HON1.out u (List.mem_of_mem_drop hu)
        intro w3 cur3 hh3 hs3 ht3 hg3
        have HH3 := Aside0.mk hh3
        have HS3 := Aside0.mk hs3
        have HT3 := Aside0.mk ht3
        have HK3 := Aside0.mk (Kept.of_grown hg3 (Kept.drew HK2.out) (fun k hk => by injection hk with hk; exact .inr (by omega)))
        have HB3 := Aside0.mk ((below_drew HB2.out).grown hg3 (Nat.le_trans hsz.out (HK2.out.1)) (fun k hk => by injection hk with hk; have := hsz.out; omega))
        clear hh3 hs3 ht3 hg3
        go_wp2
        go_ret
        refine ⟨_, rfl, Xw.insert_R k42 (fun h => h) HRK.out HNR.out hi hsz.out HH3.out hle1 HCM1.out ?_ ?_ (.inr (Nat.le_refl _)), HB3.out, HK3.out⟩
        · rw [HS3.out, HS2.out, HS1.out]; rfl
        · rw [HT3.out, HT2.out]
          have hsp := Xw.spliced inner news cur1.toList i l0.length l2.length 2 hi HIL.out HNL.out (by have := HS1.out; have e : cur1.toList.length = cur1.size := Array.length_toList; omega) HTK1.out
          simp only [List.append_assoc] at hsp ⊢
          exact hsp
      · have hgi : (l0.length : Int) + (l2.length : Int) ≤ (c : Int) := by omega
        have hk5 : (0 : Int) ≤ (l0.length : Int) + (l2.length : Int) := by omega
        have hk6 : ((l0.length : Int) + (l2.length : Int)).toNat = l0.length + l2.length := by omega
        have hk7 : (i : Int) + (l2.length : Int) ≤ (l0.length : Int) + (l2.length : Int) := by omega
        have hk8 : (0 : Int) ≤ (i : Int) + (l2.length : Int) := by omega
        have hk9 : ((i : Int) + (l2.length : Int)).toNat = i + l2.length := by omega
        have hne2 : ¬ c = i + l2.length := by omega
        have hk10 : IntKind.i64.wrap ((i : Int) + (l2.length : Int)) = (i : Int) + (l2.length : Int) := IntWalk.i64_in _ (by omega)
        have hk11 : (i : Int) ≤ (l0.length : Int) + (l2.length : Int) := by omega
        have hov : (callFunc 42 #[.slice (some ad) l2.length c2, .slice (some ⟨g, (i + l2.length) * 2, none⟩) (l0.length + l2.length - (i + l2.length)) (c - (i + l2.length))]).run Try.prog w = .ok (.value (.bool false)) w := by
          obtain ⟨u, hu⟩ : ∃ u, news[0]? = some u := ⟨_, List.getElem?_eq_getElem (by have := HNL.out; have : (l2.length : Int) ≠ 0 := beq_eq_false_iff_ne.1 hz2; omega)⟩
          have hu' := HNC.out 0 u hu
          obtain ⟨cA, tA, fA, hA, hkA⟩ := Xw.shape_of_cell hu'
          rw [Xw.add_block] at hA
          have hsb : w.shape? g = some (42, cur.size) := by simp [World.shape?, hhx.out]
          rw [run_callFunc_extern Try.func42 (by kernel_rfl) (by kernel_rfl) (by kernel_rfl) (e := Extern.SlicesOverlaps.overlaps #[22, 22] #[4]) (by kernel_rfl),
            Xw.overlaps_apart w 22 4 42 Try.underlying22 2 (by kernel_rfl) ad ⟨g, (i + l2.length) * 2, none⟩ _ _ _ _ (fun he => HAP.out (by rw [he]; exact HOK.out)) tA 42 cA.size cur.size (by simp [World.shape?, hA]) hsb (by omega) (fun off => blk_frozen hhx.out _) (blk_frozen hhx.out _)]
          rfl
        have HLTG := Aside0.mk (show g < w.heap.size from (Array.getElem?_eq_some_iff.1 hhx.out).1)
        go_enter Try.func39, Try.ntmps39
        go_wp2_with fail
        clear hov
        go_still_tail 8, (by kernel_rfl)
        change wpList _ _ _ _ _ w.drew
        clear hk8 hk9 hk10 hk6
        refine Xw.copy_cells rfl (.tmp 73) (.tmp 76) 44 44 42 2 rfl Try.underlying44 (by kernel_rfl) (g := g) (off := (i + l2.length) * 2) rfl rfl (m := l0.length - i) ?hw0 (inner.drop (i * 2)) rfl rfl ?hw1 ?hw2 42 cur hhx.out ?hw3 ?hw4 ?_
        case hw0 => exact (Nat.min_eq_right (by omega)).trans (by omega)
        case hw1 => have := HIL.out; rw [List.length_drop]; omega
        case hw2 =>
          intro j u hu
          rw [List.getElem?_drop] at hu
          have hT := HTK.out
          rw [← hT, List.getElem?_take] at hu
          split at hu
          · rw [add_at, cell_of_row _ g _ cur 42 (0, 0) (show (w.drew).heap[g]? = _ from hhx.out), ← Array.getElem?_toList]
            exact hu
          · cases hu
        case hw3 => have := HIL.out; have := HCS.out; rw [List.length_drop]; omega
        case hw4 => intro u hu; exact HON1.out u (List.mem_of_mem_drop hu)
        intro w1 cur1 hh1 hs1 ht1 hg1
        have HH1 := Aside0.mk hh1
        have HS1 := Aside0.mk hs1
        have HT1 := Aside0.mk ht1
        have HK1 := Aside0.mk (Kept.of_grown hg1 (Kept.drew (Kept.refl w P0_)) (fun k hk => by injection hk with hk; subst hk; exact .inl HOK.out))
        have HB1 := Aside0.mk ((below_drew HB.out).grown hg1 hsz.out (fun k hk => by injection hk with hk; subst hk; exact HBG.out))
        clear hh1 hs1 ht1 hg1
        go_wp2_with (with_reducible refine Xw.copy_cells rfl (.tmp 80) (.tmp 81) 44 22 42 2 rfl Try.underlying44 ?hv0 (g := g) (off := i * 2) rfl rfl (m := l2.length) ?hv1 news ?hv2 rfl ?hv3 ?hv4 42 cur1 HH1.out ?hv5 HON2.out ?_)
        case hv0 => kernel_rfl
        case hv1 => exact Nat.min_eq_left (by omega)
        case hv2 => rfl
        case hv3 => exact HNL.out
        case hv4 => intro j u hu; exact cell_kept (HNC.out j u hu) HK1.out (by rw [Xw.add_block]; exact HAP.out)
        case hv5 => have := HNL.out; have := HS1.out; have := HCS.out; omega
        intro w2 cur2 hh2 hs2 ht2 hg2
        have HH2 := Aside0.mk hh2
        have HS2 := Aside0.mk hs2
        have HT2 := Aside0.mk ht2
        have HK2 := Aside0.mk (Kept.of_grown hg2 HK1.out (fun k hk => by injection hk with hk; subst hk; exact .inl HOK.out))
        have HB2 := Aside0.mk (HB1.out.grown hg2 (Nat.le_trans hsz.out HK1.out.1) (fun k hk => by injection hk with hk; subst hk; exact HBG.out))
        clear hh2 hs2 ht2 hg2
        go_wp2
        go_ret
        refine ⟨_, rfl, Xw.insert_R k42 (fun h => h) HRK.out HNR.out hi HBG.out HH2.out (by omega) HCM.out ?_ ?_ (.inl HOK.out), HB2.out, HK2.out⟩
        · rw [HS2.out, HS1.out, HCS.out]; rfl
        · rw [HT2.out, HT1.out]
          have hsp := Xw.spliced2 inner news cur.toList i l0.length l2.length 2 hi HIL.out HNL.out (by have := HCS.out; have e : cur.toList.length = cur.size := Array.length_toList; omega) HTK.out
          simp only [List.append_assoc] at hsp ⊢
          exact hsp

/-! ### extent_list_place: function 32 -/
def extent_list_place.c (x : S42) (at_ : Int) : Int := if wrap64 (x.f0 + x.f1) ≤ at_ then -1 else 1
def extent_list_place.l0 : Nat → List (S42) → Int → Int → Int → Option Int
  | 0, _, _, _, _ => none
  | k + 1, l, at_, i, j => if i < j then (if wrap64 ((rd_T42 l ((i + j) / 2)).f0 + (rd_T42 l ((i + j) / 2)).f1) ≤ at_ then extent_list_place.l0 k l at_ ((i + j) / 2 + 1) j else extent_list_place.l0 k l at_ i ((i + j) / 2)) else some i
def extent_list_place.f (k : Nat) (l0 : List (S42)) (a1 : Int) : Option Int := if l0.length < 8796093022208 then extent_list_place.l0 k l0 a1 0 l0.length else none
theorem extent_list_place.mono_l : ∀ k, (∀ y0 y1 y2 y3, LeO (extent_list_place.l0 k y0 y1 y2 y3) (extent_list_place.l0 (k + 1) y0 y1 y2 y3))
  | 0 => fun _ _ _ _ r h => by simp [extent_list_place.l0] at h
  | k + 1 => by
    have ih0 := extent_list_place.mono_l k
    intro y0 y1 y2 y3
    unfold extent_list_place.l0
    exact LeO.ite (LeO.ite (ih0 _ _ _ _) (ih0 _ _ _ _)) (LeO.refl _)
theorem extent_list_place.mono : ∀ a0 a1 k, LeO (extent_list_place.f k a0 a1) (extent_list_place.f (k + 1) a0 a1) := by
  intro a0 a1 k
  unfold extent_list_place.f
  exact LeO.ite (extent_list_place.mono_l k _ _ _ _) (LeO.none _)
set_option maxHeartbeats 8000000 in
set_option maxRecDepth 100000 in
theorem extent_list_place.cl (x0 x1 at_ : Int) (w : World) :
    Calls Try.prog 41 #[.agg #[.int .i64 x0, .int .i64 x1], .int .i64 at_] w fun e w' => e = .returned (.int .i64 (if wrap64 (x0 + x1) ≤ at_ then -1 else 1)) ∧ Below w.heap.size w w' := by
  by_cases h : wrap64 (x0 + x1) ≤ at_
  · rw [if_pos h]
    have h1 : decide (wrap64 (x0 + x1) ≤ at_) = true := decide_eq_true h
    go_enter Try.func41, Try.ntmps41
    go_wp2_with (go_at_call 33; refine (extent_end.calls x0 x1 _ _ rfl).mono ?_; rintro e w' ⟨rfl, hb⟩; have HB := Aside0.mk hb; clear hb)
    go_ret
    exact ⟨rfl, below_then (below_alloc (Below.refl _ _) _) (by simp) HB.out⟩
  · rw [if_neg h]
    have h1 : decide (wrap64 (x0 + x1) ≤ at_) = false := decide_eq_false h
    go_enter Try.func41, Try.ntmps41
    go_wp2_with (go_at_call 33; refine (extent_end.calls x0 x1 _ _ rfl).mono ?_; rintro e w' ⟨rfl, hb⟩; have HB := Aside0.mk hb; clear hb)
    go_ret
    exact ⟨rfl, below_then (below_alloc (Below.refl _ _) _) (by simp) HB.out⟩
def extent_list_place.Q (r : Int) (w : World) (e : Ending) (w' : World) : Prop := ∃ b, e = .returned (.tuple #[.int .i64 r, .bool b]) ∧ Below w.heap.size w w'
set_option maxHeartbeats 8000000 in
set_option maxRecDepth 100000 in
theorem extent_list_place.bs (k : Nat) (A0 : Option Addr) (c0 : Nat) (l0 : List (S42)) (at_ : Int) (r : Int) (w : World) (hr0 : Kd.C k42 w A0 l0.length l0) (hl : l0.length < 8796093022208) (h : extent_list_place.l0 k l0 at_ 0 l0.length = some r) :
    Calls Try.prog 40 #[.slice A0 l0.length c0, .int .i64 at_, .func (.func 41) #[] #[]] w (extent_list_place.Q r w) := by
  have HR0 := Aside0.mk hr0
  have H' := Aside0.mk h
  clear hr0 h
  have hlI : (l0.length : Int) < 8796093022208 := by omega
  go_enter Try.func40, Try.ntmps40
  go_wp2
  go_loopg [9, 10, 11] k (fun kq v9 v10 v11 w' => ∃ (x9 x10 : Int), v9 = .int .i64 x9 ∧ v10 = .int .i64 x10 ∧ 0 ≤ x9 ∧ x9 ≤ x10 ∧ x10 ≤ l0.length ∧ Aside0 (extent_list_place.l0 kq l0 at_ x9 x10 = some r) ∧ Aside0 (kq ≤ k) ∧ Aside0 (Below w.heap.size w w'))
  case atStart => exact ⟨0, l0.length, rfl, rfl, by omega, by omega, by omega, H', ⟨Nat.le_refl _⟩, ⟨Below.refl _ _⟩⟩
  case round =>
    clear H'
    obtain ⟨x9, x10, rfl, rfl, h1, h2, h3, HA, HK, HB⟩ := hrel
    cases gk with
    | zero => exact absurd HA.out (by simp [extent_list_place.l0])
    | succ k1 =>
      have H := HA.out
      clear HA
      simp only [extent_list_place.l0] at H
      by_cases c1 : x9 < x10
      · rw [if_pos c1] at H
        have hd : decide (x9 < x10) = true := decide_eq_true c1
        have p1 : 0 ≤ (x9 + x10) / 2 := by omega
        have q1 : (x9 + x10) / 2 < (l0.length : Int) := by omega
        have m1 : x9 ≤ (x9 + x10) / 2 := by omega
        have m2 : (x9 + x10) / 2 < x10 := by omega
        obtain ⟨ad, rfl, hx0, hx1⟩ := at_T42 HR0.out _ p1 q1
        replace hx0 := (HB.out.cell (World.block_lt_of_cell? w _ hx0)).trans hx0
        replace hx1 := (HB.out.cell (World.block_lt_of_cell? w _ hx1)).trans hx1
        by_cases c2 : wrap64 ((rd_T42 l0 ((x9 + x10) / 2)).f0 + (rd_T42 l0 ((x9 + x10) / 2)).f1) ≤ at_
        · rw [if_pos c2] at H
          have HH := Aside0.mk H
          clear H
          go_wp2_with (go_at_call 41; refine (extent_list_place.cl _ _ _ _).mono ?_; rintro e w' ⟨rfl, hb⟩; rw [if_pos c2]; have HB2 := Aside0.mk (below_step HB.out hb); clear hb)
          go_roundg k1
          case measure => have := HK.out; omega
          case rel => exact ⟨(x9 + x10) / 2 + 1, x10, rfl, rfl, by omega, by omega, by omega, HH, ⟨by have := HK.out; omega⟩, HB2⟩
        · rw [if_neg c2] at H
          have HH := Aside0.mk H
          clear H
          go_wp2_with (go_at_call 41; refine (extent_list_place.cl _ _ _ _).mono ?_; rintro e w' ⟨rfl, hb⟩; rw [if_neg c2]; have HB2 := Aside0.mk (below_step HB.out hb); clear hb)
          go_roundg k1
          case measure => have := HK.out; omega
          case rel => exact ⟨x9, (x9 + x10) / 2, rfl, rfl, by omega, by omega, by omega, HH, ⟨by have := HK.out; omega⟩, HB2⟩
      · rw [if_neg c1] at H
        obtain rfl := Option.some.inj H
        have hd : decide (x9 < x10) = false := decide_eq_false c1
        obtain rfl : x9 = x10 := by omega
        by_cases c3 : x9 < (l0.length : Int)
        · have hd3 : decide (x9 < (l0.length : Int)) = true := decide_eq_true c3
          obtain ⟨ad, rfl, hx0, hx1⟩ := at_T42 HR0.out _ h1 c3
          replace hx0 := (HB.out.cell (World.block_lt_of_cell? w _ hx0)).trans hx0
          replace hx1 := (HB.out.cell (World.block_lt_of_cell? w _ hx1)).trans hx1
          by_cases c4 : wrap64 ((rd_T42 l0 x9).f0 + (rd_T42 l0 x9).f1) ≤ at_
          · go_wp2_with (go_at_call 41; refine (extent_list_place.cl _ _ _ _).mono ?_; rintro e w' ⟨rfl, hb⟩; rw [if_pos c4]; have HB2 := Aside0.mk (below_step HB.out hb); clear hb)
            go_ret2
            exact ⟨_, rfl, HB2.out⟩
          · go_wp2_with (go_at_call 41; refine (extent_list_place.cl _ _ _ _).mono ?_; rintro e w' ⟨rfl, hb⟩; rw [if_neg c4]; have HB2 := Aside0.mk (below_step HB.out hb); clear hb)
            go_ret2
            exact ⟨_, rfl, HB2.out⟩
        · have hd3 : decide (x9 < (l0.length : Int)) = false := decide_eq_false c3
          go_wp2
          go_ret2
          exact ⟨_, rfl, HB.out⟩
set_option maxHeartbeats 8000000 in
set_option maxRecDepth 100000 in
theorem extent_list_place.calls (k : Nat) (A0 : Option Addr) (c0 : Nat) (l0 : List (S42)) (a1 : Int) (r : Int) (w : World) (hr0 : Kd.C k42 w A0 l0.length l0) (hc0 : l0.length ≤ c0) (h : extent_list_place.f k l0 a1 = some r) :
    Calls Try.prog 32 #[.slice A0 l0.length c0, .int .i64 a1] w fun e w' => e = .returned (.int .i64 r) ∧ Below w.heap.size w w' := by
  unfold extent_list_place.f at h
  split at h
  case isFalse => exact absurd h (by simp)
  rename_i hl
  have HR0 := Aside0.mk hr0
  have HL := Aside0.mk hl
  have HH := Aside0.mk h
  clear hr0 hl h hc0
  go_enter Try.func32, Try.ntmps32
  go_wp2_with (go_at_call 40; refine (extent_list_place.bs k _ _ _ _ r _ HR0.out HL.out HH.out).mono ?_; rintro e w' ⟨b, rfl, hb⟩; have HB2 := Aside0.mk hb; clear hb)
  go_ret
  exact ⟨rfl, HB2.out⟩

/-! ### slices_Clone_35: function 35 -/
theorem slices_Clone_35.info : (Try.prog.info? 42).map (fun i => (i.zero, i.size, i.bytes)) = some (some (.agg #[(.int .i64 0), (.int .i64 0)]), 2, 16) := by kernel_rfl
def slices_Clone_35.f (l0 : List (S42)) : Option (List (S42)) := if l0.length < 8796093022208 then some l0 else none
set_option maxHeartbeats 8000000 in
set_option maxRecDepth 100000 in
theorem slices_Clone_35.calls (A0 : Option Addr) (c0 : Nat) (l0 : List (S42)) (r : List (S42)) (w : World) (hr0 : Kd.C k42 w A0 l0.length l0) (hc0 : l0.length ≤ c0) (h : slices_Clone_35.f l0 = some r) :
    Calls Try.prog 35 #[.slice A0 l0.length c0] w fun e w' => ∃ v0_ : Value, e = .returned (v0_) ∧ Kd.R k42 42 w' w.heap.size (fun _ => True) v0_ r ∧ Below w.heap.size w w' := by
  unfold slices_Clone_35.f at h
  split at h
  case isFalse => exact absurd h (by simp)
  rename_i hlim
  obtain rfl := Option.some.inj h
  clear h
  have HR0 := Aside0.mk hr0
  have HC0 := Aside0.mk hc0
  have LM := Aside0.mk hlim
  clear hr0 hc0 hlim
  have HB := Aside0.mk (Below.refl w.heap.size w)
  cases A0 with
  | none =>
    have e0 : l0 = [] := by
      rcases l0 with _ | ⟨x, l⟩
      · rfl
      · obtain ⟨_, e, _⟩ := HR0.out.2.2 (by simp)
        cases e
    subst e0
    have hq := fun w_ => Lib.run_eql_slice_nil (P := Try.prog) w_ 22 42 none 0 c0 0 0 Try.underlying22
    go_enter Try.func35, Try.ntmps35
    go_wp2
    go_ret
    exact ⟨_, rfl, Kd.R_nil _ _ _ _ _, HB.out⟩
  | some a =>
    have hq := fun w_ => Lib.run_eql_slice_nil (P := Try.prog) w_ 22 42 (some a) l0.length c0 0 0 Try.underlying22
    go_enter Try.func35, Try.ntmps35
    go_wp2_with (first | ((with_reducible refine gate_dst (N := 5) rfl ?_); refine Kd.R_lit k42 _ 42 ?hg (N := 5) ?hd (xs := ([] : List (S42))) (inner := []) (ok := fun _ => True) (okp := fun _ => True) ?hr ?hp (fun _ hk => hk) trivial (Below.refl _ _) (Nat.le_refl _) (by simp) ?_; (case hd => rfl); (case hg => rfl); (case hr => first | (go_simp; done) | (go_simp; rfl)); (case hp => exact (Reps.none _ _)); intro v148 w3 ho4 hb hg_ hnew_; clear hg_ hnew_; have n0_ := Aside0.mk (Kd.R_lower ho4 (below_size HB.out)); have n1_ := Aside0.mk (below_step HB.out hb); clear HB; have HO149 := n0_; have HB := n1_; clear n0_ n1_; clear hb ho4) | ((with_reducible refine gate_builtin (b := .append) (xs := #[.tmp 5, .tmp 6]) rfl ?_); at_builtin; refine Kd.R_append_rows k42 (w0 := w) w.heap.size rfl (.tmp 5) (.tmp 6) 22 42 (.agg #[(.int .i64 0), (.int .i64 0)]) 16 rfl Try.underlying22 slices_Clone_35.info rfl (by decide) (by omega) v148 [] l0 _ _ _ (fun _ => True) (fun _ => False) rfl rfl ?aO ?aR (fun _ _ h => h) (fun _ h => h.elim) ?aF ?aB ?aS ?aL ?_; (case aR => exact (Kd.C_below HR0.out HB.out)); (case aB => exact HB.out); (case aF => exact (fun _ _ => trivial)); (case aO => exact HO149.out); (case aS => exact (below_size HB.out)); (case aL => have := LM.out; simp; omega); intro v151 w5 ho hb hg hat; have n0_ := Aside0.mk (hb); have n1_ := Aside0.mk (ho); clear HB; clear HO149; have HB := n0_; have HO152 := n1_; clear n0_ n1_; clear ho hb hg hat))
    go_ret
    exact ⟨_, rfl, HO152.out, HB.out⟩

end Go.Proofs.Ytobleaodacnpiaa.XE
