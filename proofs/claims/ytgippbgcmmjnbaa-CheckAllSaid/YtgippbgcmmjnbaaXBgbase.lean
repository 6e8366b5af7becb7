-- Printed by xprint.py (a program of this work, over the kit's print.py). Lean checks it.
import Derived.Test.YtgippbgcmmjnbaaXB0
namespace Go.Proofs.Ytgippbgcmmjnbaa.XB
open Go.RowKit Go.Proofs.YtgippbgcmmjnbaaW.PrintWords Go.Proofs.YtgippbgcmmjnbaaW.PrintLast Go.Proofs.YtgippbgcmmjnbaaW.PrintMore
attribute [local go_sem] max2_int min2_int max_two min_two max_three min_three max_four min_four   -- for this text's walks alone
set_option linter.unusedVariables false
set_option linter.unusedSimpArgs false

/-! ### check_length: function 35 -/
def check_length.f (a0 : Int) : Option (Bool) := if a0 ≥ 0 then (some (decide (a0 ≤ 500))) else (some false)
set_option maxHeartbeats 8000000 in
set_option maxRecDepth 100000 in
theorem check_length.calls (a0 : Int) (r : Bool) (w : World) (h : check_length.f a0 = some r) :
    Calls Try.prog 35 #[.int .i64 a0] w fun e w' => e = .returned (.bool r) ∧ Drawn0 w w' := by
  have H : (if a0 ≥ 0 then (some (decide (a0 ≤ 500))) else (some false)) = some r := h
  clear h
  by_cases c2 : a0 ≥ 0
  · rw [if_pos c2] at H
    have c2b0 : decide (0 ≤ a0) = true := decide_eq_true c2
    clear c2
    obtain rfl := Option.some.inj H
    go_enter Try.func35, Try.ntmps35
    go_wp2
    go_ret
    exact ⟨by first | rfl | (simp; done) | (simp [*]; done), by repeat (first | exact Drawn0.refl _ | apply Drawn0.step)⟩
  · rw [if_neg c2] at H
    have c2b0 : decide (0 ≤ a0) = false := decide_eq_false c2
    clear c2
    obtain rfl := Option.some.inj H
    go_enter Try.func35, Try.ntmps35
    go_wp2
    go_ret
    exact ⟨by first | rfl | (simp; done) | (simp [*]; done), by repeat (first | exact Drawn0.refl _ | apply Drawn0.step)⟩

/-! ### check_place: function 37 -/
def check_place.f (a0 : Int) (a1 : Int) : Option (Bool) := if a0 > 0 then (if (Int.tmod a0 8) = 0 then (some (decide (a0 ≤ a1))) else (some false)) else (some false)
set_option maxHeartbeats 8000000 in
set_option maxRecDepth 100000 in
theorem check_place.calls (a0 : Int) (a1 : Int) (r : Bool) (w : World) (h : check_place.f a0 a1 = some r) :
    Calls Try.prog 37 #[.int .i64 a0, .int .i64 a1] w fun e w' => e = .returned (.bool r) ∧ Drawn0 w w' := by
  have H : (if a0 > 0 then (if (Int.tmod a0 8) = 0 then (some (decide (a0 ≤ a1))) else (some false)) else (some false)) = some r := h
  clear h
  by_cases c3 : a0 > 0
  · rw [if_pos c3] at H
    have c3b0 : decide (0 < a0) = true := decide_eq_true c3
    clear c3
    by_cases c4 : (Int.tmod a0 8) = 0
    · rw [if_pos c4] at H
      have c4b0 : ((Int.tmod a0 8) == 0) = true := beq_iff_eq.mpr c4
      have c4b1 : ((Int.tmod a0 8) != 0) = false := bne_eq_false_iff_eq.mpr c4
      clear c4
      obtain rfl := Option.some.inj H
      go_enter Try.func37, Try.ntmps37
      go_wp2
      go_ret
      exact ⟨by first | rfl | (simp; done) | (simp [*]; done), by repeat (first | exact Drawn0.refl _ | apply Drawn0.step)⟩
    · rw [if_neg c4] at H
      have c4b0 : ((Int.tmod a0 8) == 0) = false := beq_eq_false_iff_ne.mpr c4
      have c4b1 : ((Int.tmod a0 8) != 0) = true := bne_iff_ne.mpr c4
      obtain rfl := Option.some.inj H
      go_enter Try.func37, Try.ntmps37
      go_wp2
      go_ret
      exact ⟨by first | rfl | (simp; done) | (simp [*]; done), by repeat (first | exact Drawn0.refl _ | apply Drawn0.step)⟩
  · rw [if_neg c3] at H
    have c3b0 : decide (0 < a0) = false := decide_eq_false c3
    clear c3
    obtain rfl := Option.some.inj H
    go_enter Try.func37, Try.ntmps37
    go_wp2
    go_ret
    exact ⟨by first | rfl | (simp; done) | (simp [*]; done), by repeat (first | exact Drawn0.refl _ | apply Drawn0.step)⟩

/-! ### slices_Clone: function 29 -/
theorem slices_Clone.info : (Try.prog.info? 27).map (fun i => (i.zero, i.size, i.bytes)) = some (some (.agg ((.int .i64 0) :: (.int .u8 0) :: (.int .u8 0) :: (.int .u8 0) :: (.int .u8 0) :: (.int .u8 0) :: (.int .u8 0) :: (.int .u8 0) :: (.int .u8 0) :: (.int .u8 0) :: (.int .u8 0) :: (.int .u8 0) :: (.int .u8 0) :: (.int .u8 0) :: (.int .u8 0) :: (.int .u8 0) :: (.int .u8 0) :: (.int .u8 0) :: (.int .u8 0) :: (.int .u8 0) :: (.int .u8 0) :: (.int .u8 0) :: (.int .u8 0) :: (.int .u8 0) :: (.int .u8 0) :: (.int .u8 0) :: (.int .u8 0) :: (.int .u8 0) :: (.int .u8 0) :: (.int .u8 0) :: (.int .u8 0) :: (.int .u8 0) :: (.int .u8 0) :: []).toArray), 33, 40) := by kernel_rfl
def slices_Clone.f (l0 : List (S27)) : Option (List (S27)) := if l0.length < 3518437208883 then some l0 else none
set_option maxHeartbeats 8000000 in
set_option maxRecDepth 100000 in
theorem slices_Clone.calls (A0 : Option Addr) (c0 : Nat) (l0 : List (S27)) (r : List (S27)) (w : World) (hr0 : Kd.C k27 w A0 l0.length l0) (hc0 : l0.length ≤ c0) (h : slices_Clone.f l0 = some r) :
    Calls Try.prog 29 #[.slice A0 l0.length c0] w fun e w' => ∃ v0_ : Value, e = .returned (v0_) ∧ Kd.R k27 27 w' w.heap.size (fun _ => True) v0_ r ∧ Below w.heap.size w w' := by
  unfold slices_Clone.f at h
  split at h
  case isFalse => exact absurd h (by simp)
  rename_i hlim
  obtain rfl := Option.some.inj h
  clear h
  have HR0 := Aside0.mk hr0
  have HC0 := Aside0.mk hc0
  have LM := Aside0.mk hlim
  clear hr0 hc0 hlim
  have HB := Aside0.mk (Below.refl w.heap.size w)
  cases A0 with
  | none =>
    have e0 : l0 = [] := by
      rcases l0 with _ | ⟨x, l⟩
      · rfl
      · obtain ⟨_, e, _⟩ := HR0.out.2.2 (by simp)
        cases e
    subst e0
    have hq := fun w_ => Lib.run_eql_slice_nil (P := Try.prog) w_ 22 27 none 0 c0 0 0 Try.underlying22
    go_enter Try.func29, Try.ntmps29
    go_wp2
    go_ret
    exact ⟨_, rfl, Kd.R_nil _ _ _ _ _, HB.out⟩
  | some a =>
    have hq := fun w_ => Lib.run_eql_slice_nil (P := Try.prog) w_ 22 27 (some a) l0.length c0 0 0 Try.underlying22
    go_enter Try.func29, Try.ntmps29
    go_wp2_with (first | ((with_reducible refine gate_dst (N := 5) rfl ?_); refine Kd.R_lit k27 _ 27 ?hg (N := 5) ?hd (xs := ([] : List (S27))) (inner := []) (ok := fun _ => True) (okp := fun _ => True) ?hr ?hp (fun _ hk => hk) trivial (Below.refl _ _) (Nat.le_refl _) (by simp) ?_; (case hd => rfl); (case hg => rfl); (case hr => first | (go_simp; done) | (go_simp; rfl)); (case hp => exact (Reps.none _ _)); intro v148 w3 ho4 hb hg_ hnew_; clear hg_ hnew_; have n0_ := Aside0.mk (Kd.R_lower ho4 (below_size HB.out)); have n1_ := Aside0.mk (below_step HB.out hb); clear HB; have HO149 := n0_; have HB := n1_; clear n0_ n1_; clear hb ho4) | ((with_reducible refine gate_builtin (b := .append) (xs := #[.tmp 5, .tmp 6]) rfl ?_); at_builtin; refine Kd.R_append_rows k27 (w0 := w) w.heap.size rfl (.tmp 5) (.tmp 6) 22 27 (.agg ((.int .i64 0) :: (.int .u8 0) :: (.int .u8 0) :: (.int .u8 0) :: (.int .u8 0) :: (.int .u8 0) :: (.int .u8 0) :: (.int .u8 0) :: (.int .u8 0) :: (.int .u8 0) :: (.int .u8 0) :: (.int .u8 0) :: (.int .u8 0) :: (.int .u8 0) :: (.int .u8 0) :: (.int .u8 0) :: (.int .u8 0) :: (.int .u8 0) :: (.int .u8 0) :: (.int .u8 0) :: (.int .u8 0) :: (.int .u8 0) :: (.int .u8 0) :: (.int .u8 0) :: (.int .u8 0) :: (.int .u8 0) :: (.int .u8 0) :: (.int .u8 0) :: (.int .u8 0) :: (.int .u8 0) :: (.int .u8 0) :: (.int .u8 0) :: (.int .u8 0) :: []).toArray) 40 rfl Try.underlying22 slices_Clone.info rfl (by decide) (by omega) v148 [] l0 _ _ _ (fun _ => True) (fun _ => False) rfl rfl ?aO ?aR (fun _ _ h => h) (fun _ h => h.elim) ?aF ?aB ?aS ?aL ?_; (case aR => exact (Kd.C_below HR0.out HB.out)); (case aB => exact HB.out); (case aF => exact (fun _ _ => trivial)); (case aO => exact HO149.out); (case aS => exact (below_size HB.out)); (case aL => have := LM.out; simp; omega); intro v151 w5 ho hb hg hat; have n0_ := Aside0.mk (hb); have n1_ := Aside0.mk (ho); clear HB; clear HO149; have HB := n0_; have HO152 := n1_; clear n0_ n1_; clear ho hb hg hat))
    go_ret
    exact ⟨_, rfl, HO152.out, HB.out⟩

/-! ### slices_Insert: function 38 -/
theorem slices_Insert.info : (Try.prog.info? 27).map (fun i => (i.zero, i.size, i.bytes)) = some (some (.agg ((.int .i64 0) :: (.int .u8 0) :: (.int .u8 0) :: (.int .u8 0) :: (.int .u8 0) :: (.int .u8 0) :: (.int .u8 0) :: (.int .u8 0) :: (.int .u8 0) :: (.int .u8 0) :: (.int .u8 0) :: (.int .u8 0) :: (.int .u8 0) :: (.int .u8 0) :: (.int .u8 0) :: (.int .u8 0) :: (.int .u8 0) :: (.int .u8 0) :: (.int .u8 0) :: (.int .u8 0) :: (.int .u8 0) :: (.int .u8 0) :: (.int .u8 0) :: (.int .u8 0) :: (.int .u8 0) :: (.int .u8 0) :: (.int .u8 0) :: (.int .u8 0) :: (.int .u8 0) :: (.int .u8 0) :: (.int .u8 0) :: (.int .u8 0) :: (.int .u8 0) :: []).toArray), 33, 40) := by kernel_rfl
def slices_Insert.f (l0 : List (S27)) (a1 : Int) (l2 : List (S27)) : Option (List (S27)) := if 0 ≤ a1 ∧ a1 ≤ l0.length ∧ l0.length + l2.length < 3518437208883 then some (l0.take a1.toNat ++ (l2 ++ l0.drop a1.toNat)) else none
set_option maxHeartbeats 8000000 in
set_option maxRecDepth 100000 in
theorem slices_Insert.calls (P0_ : Nat → Prop) (u9000_ : Value) (l0 : List (S27)) (a1 : Int) (A2 : Option Addr) (c2 : Nat) (l2 : List (S27)) (r : List (S27)) (w0 w : World) (hB : Below w0.heap.size w0 w) (ho0 : Kd.R k27 27 w w0.heap.size P0_ u9000_ l0) (hr2 : ∀ W_, Kept w W_ (fun k_ => P0_ k_) → Kd.C k27 W_ A2 l2.length l2) (hc2 : l2.length ≤ c2) (h : slices_Insert.f l0 a1 l2 = some r) :
    Calls Try.prog 38 #[u9000_, .int .i64 a1, .slice A2 l2.length c2] w fun e w' => ∃ v0_ : Value, e = .returned v0_ ∧ Kd.R k27 27 w' w0.heap.size (fun k_ => (P0_ k_ ∨ w.heap.size ≤ k_)) v0_ r ∧ Below w0.heap.size w0 w' ∧ Kept w w' (fun k_ => P0_ k_) := by
  unfold slices_Insert.f at h
  split at h
  case isFalse => exact absurd h (by simp)
  rename_i hc
  obtain ⟨h0, h1, hlim⟩ := hc
  obtain rfl := Option.some.inj h
  clear h
  obtain ⟨i, rfl⟩ := Int.eq_ofNat_of_zero_le h0
  have hi : i ≤ l0.length := by omega
  obtain ⟨A, c, rfl, hlc, hC⟩ := Kd.R_reads ho0
  have hC2 := hr2 w (Kept.refl w _)
  have HB := Aside0.mk hB
  have HO := Aside0.mk ho0
  have HR2 := Aside0.mk hr2
  have hm : l0.length ≤ 9223372036854775807 := hC.2.1
  have hm2 : l2.length ≤ 9223372036854775807 := hC2.2.1
  have hlc' : l0.length ≤ c := hlc
  have hcm : c ≤ 9223372036854775807 := by
    rcases ho0.2 with ⟨inner, hown, _⟩
    rcases hown.2 with ⟨hv, _⟩ | ⟨g, cap, cur, hv, _, _, _, h5, _⟩
    · injection hv with e1 e2 e3; omega
    · injection hv with e1 e2 e3
      subst e3
      simpa [maxLen] using h5
  have k1 : (i : Int) ≤ (l0.length : Int) := h1
  have k2 : (i : Int) ≤ (c : Int) := by omega
  clear hB ho0 hr2 hC hC2
  simp only [Int.toNat_natCast]
  have hsz := Aside0.mk (below_size HB.out)
  by_cases hl2 : l2.length = 0
  · obtain rfl := List.eq_nil_of_length_eq_zero hl2
    have e1 : l0.take i ++ ([] ++ l0.drop i) = l0 := by simp
    rw [e1]
    clear hl2 e1
    by_cases hci : c = i
    · obtain rfl := hci
      go_enter Try.func38, Try.ntmps38
      go_wp2
      go_ret
      exact ⟨_, rfl, Kd.R_mono HO.out (fun k hk => .inl hk), HB.out, Kept.refl w _⟩
    · go_enter Try.func38, Try.ntmps38
      go_wp2
      go_ret
      exact ⟨_, rfl, Kd.R_mono HO.out (fun k hk => .inl hk), HB.out, Kept.refl w _⟩
  · have hz2 : ((l2.length : Int) == 0) = false := by rw [beq_eq_false_iff_ne]; omega
    by_cases hin : i = l0.length
    · obtain rfl := hin
      have e1 : l0.take l0.length ++ (l2 ++ l0.drop l0.length) = l0 ++ l2 := by simp
      rw [e1]
      clear e1 hl2
      have hlen : (l0.length + l2.length) * 40 ≤ 140737488355328 := by omega
      have hq : ((l0.length : Int) == (l0.length : Int)) = true := by simp
      by_cases hci : c = l0.length
      · obtain rfl := hci
        go_enter Try.func38, Try.ntmps38
        go_wp2_with (at_builtin; refine Xw.append_rows2 k27 (fun h => h) (w0 := w0) w0.heap.size rfl (.tmp 23) (.tmp 24) 22 22 27 27 (.agg ((.int .i64 0) :: (.int .u8 0) :: (.int .u8 0) :: (.int .u8 0) :: (.int .u8 0) :: (.int .u8 0) :: (.int .u8 0) :: (.int .u8 0) :: (.int .u8 0) :: (.int .u8 0) :: (.int .u8 0) :: (.int .u8 0) :: (.int .u8 0) :: (.int .u8 0) :: (.int .u8 0) :: (.int .u8 0) :: (.int .u8 0) :: (.int .u8 0) :: (.int .u8 0) :: (.int .u8 0) :: (.int .u8 0) :: (.int .u8 0) :: (.int .u8 0) :: (.int .u8 0) :: (.int .u8 0) :: (.int .u8 0) :: (.int .u8 0) :: (.int .u8 0) :: (.int .u8 0) :: (.int .u8 0) :: (.int .u8 0) :: (.int .u8 0) :: (.int .u8 0) :: []).toArray) 40 rfl Try.underlying22 Try.underlying22 slices_Insert.info rfl (by decide) (by decide) _ l0 l2 _ _ _ (fun k_ => (P0_ k_ ∨ w.heap.size ≤ k_)) rfl rfl (Kd.R_mono HO.out (fun k hk => .inl hk)) (HR2.out w (Kept.refl w _)) (fun _ h => .inr h) HB.out hsz.out hlen ?_; intro v151 w5 ho hb hg; have HB1 := Aside0.mk (hb); have HO1 := Aside0.mk (ho); have HK1 := Aside0.mk (Kept.of_grown (w := w) (S := P0_) hg (Kept.refl w P0_) (fun k hk => .inl (HO.out.1 k hk))); clear ho hb hg)
        go_ret
        exact ⟨_, rfl, HO1.out, HB1.out, HK1.out⟩
      · go_enter Try.func38, Try.ntmps38
        go_wp2_with (at_builtin; refine Xw.append_rows2 k27 (fun h => h) (w0 := w0) w0.heap.size rfl (.tmp 23) (.tmp 24) 22 22 27 27 (.agg ((.int .i64 0) :: (.int .u8 0) :: (.int .u8 0) :: (.int .u8 0) :: (.int .u8 0) :: (.int .u8 0) :: (.int .u8 0) :: (.int .u8 0) :: (.int .u8 0) :: (.int .u8 0) :: (.int .u8 0) :: (.int .u8 0) :: (.int .u8 0) :: (.int .u8 0) :: (.int .u8 0) :: (.int .u8 0) :: (.int .u8 0) :: (.int .u8 0) :: (.int .u8 0) :: (.int .u8 0) :: (.int .u8 0) :: (.int .u8 0) :: (.int .u8 0) :: (.int .u8 0) :: (.int .u8 0) :: (.int .u8 0) :: (.int .u8 0) :: (.int .u8 0) :: (.int .u8 0) :: (.int .u8 0) :: (.int .u8 0) :: (.int .u8 0) :: (.int .u8 0) :: []).toArray) 40 rfl Try.underlying22 Try.underlying22 slices_Insert.info rfl (by decide) (by decide) _ l0 l2 _ _ _ (fun k_ => (P0_ k_ ∨ w.heap.size ≤ k_)) rfl rfl (Kd.R_mono HO.out (fun k hk => .inl hk)) (HR2.out w (Kept.refl w _)) (fun _ h => .inr h) HB.out hsz.out hlen ?_; intro v151 w5 ho hb hg; have HB1 := Aside0.mk (hb); have HO1 := Aside0.mk (ho); have HK1 := Aside0.mk (Kept.of_grown (w := w) (S := P0_) hg (Kept.refl w P0_) (fun k hk => .inl (HO.out.1 k hk))); clear ho hb hg)
        go_ret
        exact ⟨_, rfl, HO1.out, HB1.out, HK1.out⟩
    · have hiq : ((i : Int) == (l0.length : Int)) = false := by rw [beq_eq_false_iff_ne]; omega
      have hilt : i < l0.length := by omega
      have hcine : ¬ c = i := by omega
      obtain ⟨hok, inner, hown, hrep⟩ := HO.out
      rcases hown.2 with ⟨hv, h00⟩ | ⟨g, cap, cur, hv, hbg, hh, hle, hcm', hcs, htake⟩
      · injection hv with e1 e2 e3
        omega
      injection hv with e1 e2 e3
      subst e1 e3
      have hin0 : inner.length = l0.length * k27.sz := hrep.1
      obtain ⟨ad, rfl⟩ : ∃ ad, A2 = some ad := by
        obtain ⟨ad, e, _⟩ := (HR2.out w (Kept.refl w _)).2.2 (by omega)
        exact ⟨ad, e⟩
      have hap := Xw.apart_of HR2.out (by omega) (by decide)
      obtain ⟨news, hnr, hnc⟩ := ReadsRow.inner_ (HR2.out w (Kept.refl w _))
      have hone2 : ∀ u ∈ news, u.oneCell' = true := Xw.one_of_reps k27 (by decide) hnr
      have hone1 : ∀ u ∈ inner, u.oneCell' = true := Xw.one_of_reps k27 (by decide) (hrep.imp_ (fun _ _ h => k27.K_of_M h))
      have hcell : ∀ j u, inner[j]? = some u → w.cell? ⟨g, j, none⟩ = some u := by
        intro j u hu
        rw [cell_of_row w g j cur 27 (0, 0) hh, ← Array.getElem?_toList]
        rw [← htake, List.getElem?_take] at hu
        split at hu
        · exact hu
        · cases hu
      have HCELL := Aside0.mk hcell
      clear hcell
      have hrepK := hrep.imp_ (fun _ _ h => k27.K_of_M h)
      have hnl : news.length = l2.length * 33 := hnr.1
      have hil : inner.length = l0.length * 33 := hin0
      have hcs2 : cur.size = c * 33 := hcs
      have htk2 : cur.toList.take (l0.length * 33) = inner := htake
      have hhx := Aside0.mk hh
      have HAP := Aside0.mk hap
      have HNR := Aside0.mk hnr
      have HNC := Aside0.mk hnc
      have HON2 := Aside0.mk hone2
      have HON1 := Aside0.mk hone1
      have HRK := Aside0.mk hrepK
      have HIL := Aside0.mk hil
      have HNL := Aside0.mk hnl
      have HCS := Aside0.mk hcs2
      have HTK := Aside0.mk htk2
      have HOK := Aside0.mk (hok g (by simp [Value.ownBlock]))
      have HBG := Aside0.mk hbg
      have HCM := Aside0.mk hcm'
      clear hh hap hnr hnc hone2 hone1 hrepK hil hnl hcs2 htk2 hok hbg hcm' hcs htake hown hrep hin0 hin hl2 hle HO
      by_cases hgr : c < l0.length + l2.length
      · have hgi : (c : Int) < (l0.length : Int) + (l2.length : Int) := by omega
        have hk5 : (i : Int) ≤ (l0.length : Int) + (l2.length : Int) := by omega
        go_enter Try.func38, Try.ntmps38
        go_wp2_with (at_builtin; refine Xw.zeros_grow rfl (.tmp 34) (.tmp 39) 22 3 27 (.agg ((.int .i64 0) :: (.int .u8 0) :: (.int .u8 0) :: (.int .u8 0) :: (.int .u8 0) :: (.int .u8 0) :: (.int .u8 0) :: (.int .u8 0) :: (.int .u8 0) :: (.int .u8 0) :: (.int .u8 0) :: (.int .u8 0) :: (.int .u8 0) :: (.int .u8 0) :: (.int .u8 0) :: (.int .u8 0) :: (.int .u8 0) :: (.int .u8 0) :: (.int .u8 0) :: (.int .u8 0) :: (.int .u8 0) :: (.int .u8 0) :: (.int .u8 0) :: (.int .u8 0) :: (.int .u8 0) :: (.int .u8 0) :: (.int .u8 0) :: (.int .u8 0) :: (.int .u8 0) :: (.int .u8 0) :: (.int .u8 0) :: (.int .u8 0) :: (.int .u8 0) :: []).toArray) 33 40 rfl Try.underlying22 Try.underlying3 slices_Insert.info rfl (by decide) (by decide) (by decide) rfl rfl rfl (m := l0.length + l2.length - i) ?hx1 (inner.take (i * 33)) ?hx2 ?hx3 ?hx4 ?hx5 ?hx6 ?_)
        case hx1 => omega
        case hx2 => have := HIL.out; exact Nat.min_eq_left (by omega)
        case hx3 =>
          intro j u hu
          rw [List.getElem?_take] at hu
          split at hu
          · exact HCELL.out j u hu
          · cases hu
        case hx4 => omega
        case hx5 => omega
        case hx6 => omega
        intro w1 cap1 cur1 hh1 hs1 hle1 hcm1 htk1 hg1 hlt1
        have e1 : i + (l0.length + l2.length - i) = l0.length + l2.length := by omega
        rw [e1] at hle1 ⊢
        have HH1 := Aside0.mk hh1
        have HS1 := Aside0.mk hs1
        have HTK1 := Aside0.mk htk1
        have HG1 := Aside0.mk hg1
        have HCM1 := Aside0.mk hcm1
        have hcap1 : cap1 ≤ 9223372036854775807 := by simpa [maxLen] using hcm1
        have hne1 : ¬ cap1 = i := by omega
        have hne2 : ¬ cap1 = i + l2.length := by omega
        have hk6 : (l0.length : Int) + (l2.length : Int) ≤ (cap1 : Int) := by omega
        have hk8 : (0 : Int) ≤ (i : Int) + (l2.length : Int) := by omega
        have hk9 : ((i : Int) + (l2.length : Int)).toNat = i + l2.length := by omega
        have hk10 : IntKind.i64.wrap ((i : Int) + (l2.length : Int)) = (i : Int) + (l2.length : Int) := IntWalk.i64_in _ (by omega)
        have hk7 : (i : Int) + (l2.length : Int) ≤ (l0.length : Int) + (l2.length : Int) := by omega
        have HLT1 := Aside0.mk hlt1
        have HLTG := Aside0.mk (show g < w.heap.size from (Array.getElem?_eq_some_iff.1 hhx.out).1)
        have HHX1 := Aside0.mk ((hg1.block g HLTG.out (by simp)).trans hhx.out)
        have HK1 := Aside0.mk (Kept.of_grown (w := w) (S := P0_) hg1 (Kept.refl w P0_) (fun k hk => by cases hk))
        have HB1 := Aside0.mk (HB.out.grown hg1 hsz.out (fun k hk => by cases hk))
        clear hh1 hs1 htk1 hg1 hcm1 e1 hlt1
        go_wp2_with (with_reducible refine Xw.copy_cells rfl (.tmp 43) (.tmp 44) 22 22 27 33 rfl Try.underlying22 ?hy0 (g := w.heap.size) (off := i * 33) rfl rfl (m := l2.length) ?hy1 news ?hy2 rfl ?hy3 ?hy4 27 cur1 HH1.out ?hy5 HON2.out ?_)
        case hy0 => kernel_rfl
        case hy1 => exact Nat.min_eq_left (by omega)
        case hy2 => rfl
        case hy3 => exact HNL.out
        case hy4 => intro j u hu; exact cell_kept (HNC.out j u hu) HK1.out (by rw [Xw.add_block]; exact HAP.out)
        case hy5 => have := HNL.out; have := HS1.out; omega
        intro w2 cur2 hh2 hs2 ht2 hg2
        have HH2 := Aside0.mk hh2
        have HS2 := Aside0.mk hs2
        have HT2 := Aside0.mk ht2
        have HHX2 := Aside0.mk ((hg2.block g (by have := HLT1.out; have := HLTG.out; omega) (by have := HLTG.out; simp; omega)).trans HHX1.out)
        have HK2 := Aside0.mk (Kept.of_grown hg2 HK1.out (fun k hk => by injection hk with hk; exact .inr (by omega)))
        have HB2 := Aside0.mk (HB1.out.grown hg2 (Nat.le_trans hsz.out (Nat.le_of_lt HLT1.out)) (fun k hk => by injection hk with hk; have := hsz.out; omega))
        clear hh2 hs2 ht2 hg2
        go_wp2_with fail
        go_still_tail 8, (by kernel_rfl)
        change wpList _ _ _ _ _ w2.drew
        clear hk8 hk9 hk10
        refine Xw.copy_cells rfl (.tmp 50) (.tmp 53) 22 22 27 33 rfl Try.underlying22 (by kernel_rfl) (g := w.heap.size) (off := (i + l2.length) * 33) rfl rfl (m := l0.length - i) (Nat.min_eq_left (by omega)) (inner.drop (i * 33)) rfl rfl ?hz1 ?hz2 27 cur2 HH2.out ?hz3 ?hz4 ?_
        case hz1 => have := HIL.out; rw [List.length_drop]; omega
        case hz2 =>
          intro j u hu
          have h1 : (w2.drew).heap[g]? = some (.cells cur 27 (0, 0)) := HHX2.out
          rw [List.getElem?_drop] at hu
          have hT := HTK.out
          rw [← hT, List.getElem?_take] at hu
          split at hu
          · rw [add_at, cell_of_row _ g _ cur 27 (0, 0) h1, ← Array.getElem?_toList]
            exact hu
          · cases hu
        case hz3 => have := HIL.out; have := HS2.out; have := HS1.out; rw [List.length_drop]; omega
        case hz4 => intro u hu; exact HON1.out u (List.mem_of_mem_drop hu)
        intro w3 cur3 hh3 hs3 ht3 hg3
        have HH3 := Aside0.mk hh3
        have HS3 := Aside0.mk hs3
        have HT3 := Aside0.mk ht3
        have HK3 := Aside0.mk (Kept.of_grown hg3 (Kept.drew HK2.out) (fun k hk => by injection hk with hk; exact .inr (by omega)))
        have HB3 := Aside0.mk ((below_drew HB2.out).grown hg3 (Nat.le_trans hsz.out (HK2.out.1)) (fun k hk => by injection hk with hk; have := hsz.out; omega))
        clear hh3 hs3 ht3 hg3
        go_wp2
        go_ret
        refine ⟨_, rfl, Xw.insert_R k27 (fun h => h) HRK.out HNR.out hi hsz.out HH3.out hle1 HCM1.out ?_ ?_ (.inr (Nat.le_refl _)), HB3.out, HK3.out⟩
        · rw [HS3.out, HS2.out, HS1.out]; rfl
        · rw [HT3.out, HT2.out]
          have hsp := Xw.spliced inner news cur1.toList i l0.length l2.length 33 hi HIL.out HNL.out (by have := HS1.out; have e : cur1.toList.length = cur1.size := Array.length_toList; omega) HTK1.out
          simp only [List.append_assoc] at hsp ⊢
          exact hsp
      · have hgi : (l0.length : Int) + (l2.length : Int) ≤ (c : Int) := by omega
        have hk5 : (0 : Int) ≤ (l0.length : Int) + (l2.length : Int) := by omega
        have hk6 : ((l0.length : Int) + (l2.length : Int)).toNat = l0.length + l2.length := by omega
        have hk7 : (i : Int) + (l2.length : Int) ≤ (l0.length : Int) + (l2.length : Int) := by omega
        have hk8 : (0 : Int) ≤ (i : Int) + (l2.length : Int) := by omega
        have hk9 : ((i : Int) + (l2.length : Int)).toNat = i + l2.length := by omega
        have hne2 : ¬ c = i + l2.length := by omega
        have hk10 : IntKind.i64.wrap ((i : Int) + (l2.length : Int)) = (i : Int) + (l2.length : Int) := IntWalk.i64_in _ (by omega)
        have hk11 : (i : Int) ≤ (l0.length : Int) + (l2.length : Int) := by omega
        have hov : (callFunc 42 #[.slice (some ad) l2.length c2, .slice (some ⟨g, (i + l2.length) * 33, none⟩) (l0.length + l2.length - (i + l2.length)) (c - (i + l2.length))]).run Try.prog w = .ok (.value (.bool false)) w := by
          obtain ⟨u, hu⟩ : ∃ u, news[0]? = some u := ⟨_, List.getElem?_eq_getElem (by have := HNL.out; have : (l2.length : Int) ≠ 0 := beq_eq_false_iff_ne.1 hz2; omega)⟩
          have hu' := HNC.out 0 u hu
          obtain ⟨cA, tA, fA, hA, hkA⟩ := Xw.shape_of_cell hu'
          rw [Xw.add_block] at hA
          have hsb : w.shape? g = some (27, cur.size) := by simp [World.shape?, hhx.out]
          rw [run_callFunc_extern Try.func42 (by kernel_rfl) (by kernel_rfl) (by kernel_rfl) (e := Extern.SlicesOverlaps.overlaps #[22, 22] #[4]) (by kernel_rfl),
            Xw.overlaps_apart w 22 4 27 Try.underlying22 33 (by kernel_rfl) ad ⟨g, (i + l2.length) * 33, none⟩ _ _ _ _ (fun he => HAP.out (by rw [he]; exact HOK.out)) tA 27 cA.size cur.size (by simp [World.shape?, hA]) hsb (by omega) (fun off => blk_frozen hhx.out _) (blk_frozen hhx.out _)]
          rfl
        have HLTG := Aside0.mk (show g < w.heap.size from (Array.getElem?_eq_some_iff.1 hhx.out).1)
        go_enter Try.func38, Try.ntmps38
        go_wp2_with fail
        clear hov
        go_still_tail 8, (by kernel_rfl)
        change wpList _ _ _ _ _ w.drew
        clear hk8 hk9 hk10 hk6
        refine Xw.copy_cells rfl (.tmp 73) (.tmp 76) 22 22 27 33 rfl Try.underlying22 (by kernel_rfl) (g := g) (off := (i + l2.length) * 33) rfl rfl (m := l0.length - i) ?hw0 (inner.drop (i * 33)) rfl rfl ?hw1 ?hw2 27 cur hhx.out ?hw3 ?hw4 ?_
        case hw0 => exact (Nat.min_eq_right (by omega)).trans (by omega)
        case hw1 => have := HIL.out; rw [List.length_drop]; omega
        case hw2 =>
          intro j u hu
          rw [List.getElem?_drop] at hu
          have hT := HTK.out
          rw [← hT, List.getElem?_take] at hu
          split at hu
          · rw [add_at, cell_of_row _ g _ cur 27 (0, 0) (show (w.drew).heap[g]? = _ from hhx.out), ← Array.getElem?_toList]
            exact hu
          · cases hu
        case hw3 => have := HIL.out; have := HCS.out; rw [List.length_drop]; omega
        case hw4 => intro u hu; exact HON1.out u (List.mem_of_mem_drop hu)
        intro w1 cur1 hh1 hs1 ht1 hg1
        have HH1 := Aside0.mk hh1
        have HS1 := Aside0.mk hs1
        have HT1 := Aside0.mk ht1
        have HK1 := Aside0.mk (Kept.of_grown hg1 (Kept.drew (Kept.refl w P0_)) (fun k hk => by injection hk with hk; subst hk; exact .inl HOK.out))
        have HB1 := Aside0.mk ((below_drew HB.out).grown hg1 hsz.out (fun k hk => by injection hk with hk; subst hk; exact HBG.out))
        clear hh1 hs1 ht1 hg1
        go_wp2_with (with_reducible refine Xw.copy_cells rfl (.tmp 80) (.tmp 81) 22 22 27 33 rfl Try.underlying22 ?hv0 (g := g) (off := i * 33) rfl rfl (m := l2.length) ?hv1 news ?hv2 rfl ?hv3 ?hv4 27 cur1 HH1.out ?hv5 HON2.out ?_)
        case hv0 => kernel_rfl
        case hv1 => exact Nat.min_eq_left (by omega)
        case hv2 => rfl
        case hv3 => exact HNL.out
        case hv4 => intro j u hu; exact cell_kept (HNC.out j u hu) HK1.out (by rw [Xw.add_block]; exact HAP.out)
        case hv5 => have := HNL.out; have := HS1.out; have := HCS.out; omega
        intro w2 cur2 hh2 hs2 ht2 hg2
        have HH2 := Aside0.mk hh2
        have HS2 := Aside0.mk hs2
        have HT2 := Aside0.mk ht2
        have HK2 := Aside0.mk (Kept.of_grown hg2 HK1.out (fun k hk => by injection hk with hk; subst hk; exact .inl HOK.out))
        have HB2 := Aside0.mk (HB1.out.grown hg2 (Nat.le_trans hsz.out HK1.out.1) (fun k hk => by injection hk with hk; subst hk; exact HBG.out))
        clear hh2 hs2 ht2 hg2
        go_wp2
        go_ret
        refine ⟨_, rfl, Xw.insert_R k27 (fun h => h) HRK.out HNR.out hi HBG.out HH2.out (by omega) HCM.out ?_ ?_ (.inl HOK.out), HB2.out, HK2.out⟩
        · rw [HS2.out, HS1.out, HCS.out]; rfl
        · rw [HT2.out, HT1.out]
          have hsp := Xw.spliced2 inner news cur.toList i l0.length l2.length 33 hi HIL.out HNL.out (by have := HCS.out; have e : cur.toList.length = cur.size := Array.length_toList; omega) HTK.out
          simp only [List.append_assoc] at hsp ⊢
          exact hsp

end Go.Proofs.Ytgippbgcmmjnbaa.XB
