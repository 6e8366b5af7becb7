-- Printed by xprint.py (a program of this work, over the kit's print.py). Lean checks it.
import Derived.Test.YtgippbgcmmjnbaaXB0
import Derived.Test.YtgippbgcmmjnbaaXB1
import Derived.Test.YtgippbgcmmjnbaaXb
import Derived.Test.YtgippbgcmmjnbaaXBgbase
namespace Go.Proofs.Ytgippbgcmmjnbaa.XB
open Go.RowKit Go.Proofs.YtgippbgcmmjnbaaW.PrintWords Go.Proofs.YtgippbgcmmjnbaaW.PrintLast Go.Proofs.YtgippbgcmmjnbaaW.PrintMore
attribute [local go_sem] max2_int min2_int max_two min_two max_three min_three max_four min_four   -- for this text's walks alone
set_option linter.unusedVariables false
set_option linter.unusedSimpArgs false

attribute [local go_sem high] eqA27
/-! ### check_Places: function 18 -/
attribute [local go_sem] Oper.semAt_some
set_option linter.unusedSimpArgs false
def check_Places.l (m : Nat) : List Int := (List.range m).map fun i : Nat => 8 * ((i : Int) + 1)
def check_Places.f (a0 : Int) : Option (List Int) := if 0 ≤ a0 ∧ a0 ≤ 500 then some (check_Places.l (a0 / 8).toNat) else some []
theorem check_Places.l_succ (m : Nat) : check_Places.l (m + 1) = check_Places.l m ++ [8 * ((m : Int) + 1)] := by simp [check_Places.l, List.range_succ]
theorem check_Places.l_len (m : Nat) : (check_Places.l m).length = m := by simp [check_Places.l]
theorem check_Places.reps (w : World) (base : Nat) (ok : Nat → Prop) (l : List Int) : Reps ((Kd.int .i64).M w base ok) 1 l (l.map (Value.int .i64)) := by
  induction l with
  | nil => exact Reps.none _ _
  | cons x l ih => exact Reps.one (show Kd.M (Kd.int .i64) _ _ _ x [.int .i64 x] from rfl) ih
set_option maxHeartbeats 8000000 in
set_option maxRecDepth 100000 in
theorem check_Places.asks (F : Fence) (n : Nat) (hf : F.fn 41) (hro : F.round = none) (hn : 1 ≤ n) :
    Go.Proofs.YtgippbgcmmjnbaaXb.Asks F n Try.prog 41 #[] (fun x : Int => #[Value.int .i64 x]) (fun pre x => x = 8 * ((pre.length : Int) + 1)) 63 := by
  intro l J Jx W hN hY h0
  refine callsIn_of_wp Try.func41 rfl hf ?_ hro
  simp only [Try.ntmps41, List.size_toArray, List.length_cons, List.length_nil, Nat.reduceAdd, Nat.reduceSub, Array.replicate_succ, Array.replicate_zero, List.push_toArray, List.append_toArray, List.nil_append, List.cons_append]
  gi_wp2
  gi_loopw [2] (fun v wr => ∃ pre : List Int, v = .int .i64 (8 * ((pre.length : Int) + 1)) ∧ J pre wr) (fun v _ => 64 - (Go.RowKit.intOf v / 8).toNat)
  case atStart => exact ⟨[], rfl, h0⟩
  case round =>
    obtain ⟨pre, rfl, hJ⟩ := hrel
    have hlen := hN _ _ hJ
    obtain ⟨fn, tmps, assign, body, hy, hR⟩ := hY pre _ _ hJ rfl
    have hw : IntKind.i64.wrap (8 * ((pre.length : Int) + 1) + 8) = 8 * (((pre.length : Int) + 1) + 1) := by
      rw [i64_w]; unfold wrap64; omega
    gi_wp2
    refine hR.mono ?_
    rintro e W3 (⟨rfl, hJ3⟩ | ⟨rfl, hJx3⟩)
    · gi_wp2
      go_roundw
      case rel => exact ⟨pre ++ [8 * ((pre.length : Int) + 1)], by simp; try omega, hJ3⟩
      case measure => simp [Go.RowKit.intOf]; omega
    · gi_wp2
      go_end0
      exact ⟨⟨_, rfl⟩, _, hJx3⟩
theorem check_Places.info : (Try.prog.info? 3).map (fun i => (i.zero, i.size, i.bytes)) = some (some (.int .i64 0), 1, 8) := by kernel_rfl
set_option maxHeartbeats 8000000 in
set_option maxRecDepth 100000 in
theorem check_Places.it (F : Fence) (n : Nat) (hf : F.fn 36) (hro : F.round = none) (w : World) :
    CallsIn F n Try.prog 36 #[] w fun e w' => e = .returned (.func (.func 41) #[] #[]) ∧ w' = w := by
  refine callsIn_of_wp Try.func36 rfl hf ?_ hro
  simp only [Try.ntmps36, List.size_toArray, List.length_cons, List.length_nil, Nat.reduceAdd, Nat.reduceSub, Array.replicate_succ, Array.replicate_zero, List.push_toArray, List.append_toArray, List.nil_append, List.cons_append]
  gi_wp2
  go_ret
  exact ⟨rfl, rfl⟩
set_option maxHeartbeats 8000000 in
set_option maxRecDepth 100000 in
theorem check_Places.calls (a0 : Int) (r : List Int) (w : World) (h : check_Places.f a0 = some r) :
    Calls Try.prog 18 #[.int .i64 a0] w fun e w' => ∃ v0_, e = .returned v0_ ∧ Kd.R (Kd.int .i64) 3 w' w.heap.size (fun _ => True) v0_ r ∧ Below w.heap.size w w' := by
  unfold check_Places.f at h
  by_cases hc : 0 ≤ a0 ∧ a0 ≤ 500
  · rw [if_pos hc] at h
    obtain rfl := Option.some.inj h
    clear h
    obtain ⟨h0, h1⟩ := hc
    have hl : check_length.f a0 = some true := by unfold check_length.f; rw [if_pos (by omega), decide_eq_true h1]
    obtain ⟨i0, hi, hz0, hz1, hz2⟩ := info_parts check_Places.info
    refine (callsIn_wide (n := 5)).1 ?_
    refine callsIn_of_wp_marks Try.func18 rfl trivial ?_ rfl
    simp only [Try.ntmps18, List.size_toArray, List.length_cons, List.length_nil, Nat.reduceAdd, Nat.reduceSub, Array.replicate_succ, Array.replicate_zero, List.push_toArray, List.append_toArray, List.nil_append, List.cons_append]
    gi_wp2_with (first | (refine ⟨trivial, ?_⟩; gi_at_call 35; refine (callsIn_wide.2 (check_length.calls a0 true _ hl)).mono ?_; rintro e w' ⟨rfl, ⟨nd, rfl⟩⟩) | (refine ⟨trivial, ?_⟩; gi_at_call 36; refine (check_Places.it Fence.wide _ trivial rfl _).mono ?_; rintro e w' ⟨rfl, rfl⟩))
    have hN0 : (((w.alloc (.cells #[.int .i64 a0] 3)).drewN nd).alloc (.cells #[.slice none 0 0] 33)).cell? ⟨w.heap.size, 0, none⟩ = some (.int .i64 a0) := pw_cell_below (below_alloc (Below.refl _ _) _) (by rw [World.cell?_drewN]; simp)
    have bO := Boxed.new ((w.alloc (.cells #[.int .i64 a0] 3)).drewN nd) 33 (.slice none 0 0)
    rw [show ((w.alloc (.cells #[.int .i64 a0] 3)).drewN nd).heap.size = w.heap.size + 1 by simp] at bO
    have hB0 : Below w.heap.size w (((w.alloc (.cells #[.int .i64 a0] 3)).drewN nd).alloc (.cells #[.slice none 0 0] 33)) := below_alloc (pw_below_drewN (below_alloc (Below.refl _ _) _) _) _
    refine Go.Proofs.YtgippbgcmmjnbaaXb.wpIn_asks 0 rfl (by omega) (gf := 41) (lb := #[]) rfl trivial (enters_of Try.func41 (by kernel_rfl) rfl) (check_Places.asks Fence.wide (5 - 1) trivial rfl (by omega)) (fun _ => rfl)
      (fun pre W => (pre = check_Places.l pre.length ∧ 8 * (pre.length : Int) ≤ a0) ∧ (W.cell? ⟨w.heap.size, 0, none⟩ = some (.int .i64 a0)) ∧ (∃ v, Boxed W (w.heap.size + 1) 33 v ∧ W.ownsRow (w.heap.size + 1) 3 1 v pre.length (pre.map (Value.int .i64)) ∧ True) ∧ Below w.heap.size w W)
      (fun pre W => (∃ v, Boxed W (w.heap.size + 1) 33 v ∧ W.ownsRow (w.heap.size + 1) 3 1 v (check_Places.l (a0 / 8).toNat).length ((check_Places.l (a0 / 8).toNat).map (Value.int .i64)) ∧ True) ∧ Below w.heap.size w W)
      (OwnFrom.and (ownFrom_pure _ _) (OwnFrom.and (Own.from (fun s A B row hs hg hr => cell_kept hs hg hr) _) (OwnFrom.and (Own.from (holdsRow_own (w.heap.size + 1) (w.heap.size + 1) 33 3 1 (fun pre : List Int => pre.length) (fun pre => pre.map (Value.int .i64)) (fun _ _ => True)) _) (ownFrom_below (Nat.le_refl _) (by simp; omega)))))
      (OwnFrom.and (Own.from (holdsRow_own (w.heap.size + 1) (w.heap.size + 1) 33 3 1 (fun _ : List Int => (check_Places.l (a0 / 8).toNat).length) (fun _ => (check_Places.l (a0 / 8).toNat).map (Value.int .i64)) (fun _ _ => True)) _) (ownFrom_below (Nat.le_refl _) (by simp; omega)))
      (fun pre W h => by have := h.1.2; omega)
      ⟨⟨rfl, by simpa using h0⟩, hN0, ⟨_, bO, World.ownsRow_nil _ _ _ _, trivial⟩, hB0⟩
      (fun x => { tmps := #[.int .i64 a0, .pointer (some ⟨w.heap.size, 0, none⟩), .slice none 0 0, .pointer (some ⟨w.heap.size + 1, 0, none⟩), .int .i64 x, .int .i64 a0, .bool true, .bool false, .func (.func 41) #[] #[], .int .i64 x, undef, undef, undef, undef, undef, undef, undef, undef], defers := [] }) ?assign ?body ?stop
    case assign =>
      intro l x W K hK
      gi_wp2
      exact hK
    case body =>
      rintro l pre x W ⟨⟨hp0, hle⟩, hN, ⟨v, hv, hrow, _⟩, hB⟩ rfl
      have hc := hv.cell
      have hlt : w.heap.size < W.heap.size := World.block_lt_of_cell? _ _ hN
      have hml : pre.length + 1 ≤ maxLen := by have : 64 ≤ maxLen := by decide
                                               omega
      have hp := Aside0.mk hp0
      clear hp0
      by_cases hx : 8 * ((pre.length : Int) + 1) > a0
      · gi_wp2
        refine ⟨KeepsFrom.refl _ _, rfl, ⟨v, hv, ?_, trivial⟩, hB⟩
        have e : (a0 / 8).toNat = pre.length := by omega
        rw [e, ← hp.out]
        exact hrow
      · gi_wp2_with (gi_at_builtin; refine wpListIn_append_own _ rfl _ _ 33 rfl (w.heap.size + 1) 3 i0 (.int .i64 0) 1 8 Try.underlying33 hi hz0 hz1 hz2 rfl (by decide) _ _ _ rfl (hrow.alloc _) ⟨W.heap.size, 0, none⟩ 1 1 [.int .i64 (8 * ((pre.length : Int) + 1))] rfl rfl (cell_one_new _ _ _) (by simp [Value.oneCell']) (by omega) (by omega) (by simp; omega) ?_; intro v' w1 hown' hgrow _; obtain ⟨g', cap', rfl⟩ := ownsRow_succ hown'; obtain ⟨hv1, hv2, hr2, hk2, hb2⟩ := hv.appended (by decide) hrow (by omega) (Nat.le_refl _) hown' hgrow; have hc1 := hv1.cell; have hf1 := hv1.frozen)
        refine ⟨hk2.from _, ⟨?_, by simp; omega⟩, (hb2.cell (p := ⟨w.heap.size, 0, none⟩) (by simp)).trans hN, ⟨_, hv2, by rw [List.length_append, List.length_singleton, List.map_append]; first | exact hr2 | exact ⟨hr2, trivial⟩⟩, hB.trans (hb2.mono (Nat.le_succ _))⟩
        rw [List.length_append, List.length_singleton, check_Places.l_succ, ← hp.out]
    case stop =>
      rintro D pre W hD ⟨⟨v, hv, hrow, _⟩, hB⟩ hK
      have hc := hv.cell
      gi_wp2
      refine ⟨by simp, .inl ⟨_, _, rfl, run_takeDeferred hK, ?_⟩⟩
      refine ⟨_, results_tmp rfl _ _ _, v, rfl, Kd.R_lower (base := w.heap.size + 1) ⟨fun _ _ => trivial, _, ownsRow_putObj hrow _ hK rfl, check_Places.reps _ _ _ _⟩ (Nat.le_succ _), hB.trans (belowK_b (w := w) (Nat.le_refl _) W D _ _ (by simp at hD; omega) hK rfl rfl)⟩
  · rw [if_neg hc] at h
    obtain rfl := Option.some.inj h
    have hl : check_length.f a0 = some false := by
      unfold check_length.f
      by_cases h0 : a0 ≥ 0
      · rw [if_pos h0, decide_eq_false (fun h1 => hc ⟨h0, h1⟩)]
      · rw [if_neg h0]
    go_enter Try.func18, Try.ntmps18
    go_wp2_with (go_at_call 35; refine (check_length.calls a0 false _ hl).mono ?_; rintro e w' ⟨rfl, ⟨nd, rfl⟩⟩)
    go_ret
    exact ⟨_, rfl, Kd.R_nil _ _ _ _ _, pw_below_drewN (below_alloc (Below.refl _ _) _) _⟩

end Go.Proofs.Ytgippbgcmmjnbaa.XB
