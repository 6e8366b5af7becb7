-- Printed by xprint.py (a program of this work, over the kit's print.py). Lean checks it.
import Derived.Test.YtgippbgcmmjnbaaXB0
import Derived.Test.YtgippbgcmmjnbaaXb
import Derived.Laws.EntriesVeiled
import Derived.Test.YtgippbgcmmjnbaaXBfcheckMay
import Derived.Test.YtgippbgcmmjnbaaXBgbase
namespace Go.Proofs.Ytgippbgcmmjnbaa.XB
open Go.RowKit Go.Proofs.YtgippbgcmmjnbaaW.PrintWords Go.Proofs.YtgippbgcmmjnbaaW.PrintLast Go.Proofs.YtgippbgcmmjnbaaW.PrintMore
attribute [local go_sem] max2_int min2_int max_two min_two max_three min_three max_four min_four   -- for this text's walks alone
set_option linter.unusedVariables false
set_option linter.unusedSimpArgs false

/-! ### check_Kept: function 11 -/
-- the boxes: see YtgippbgcmmjnbaaXb. (its imports); run_store_func
def check_Kept.l0 : Nat → List (S27) → Int → Int → Int → Option Int
  | 0, _, _, _, _ => none
  | k + 1, l, at_, i, j => if i < j then (if (rd_T27 l ((i + j) / 2)).f0 > at_ then check_Kept.l0 k l at_ i ((i + j) / 2) else check_Kept.l0 k l at_ ((i + j) / 2 + 1) j) else some i
def check_Kept.f (k : Nat) (l0 : List (S27)) (a1 : Int) : Option (List (S27)) :=
  (check_May.f k l0 500).bind fun t => if t = 0 then (if l0.length < 3518437208883 then (check_Kept.l0 k l0 a1 0 l0.length).bind fun n => slices_Clone.f (l0.take n.toNat) else none) else some []
theorem check_Kept.mono_l : ∀ k, (∀ y0 y1 y2 y3, LeO (check_Kept.l0 k y0 y1 y2 y3) (check_Kept.l0 (k + 1) y0 y1 y2 y3))
  | 0 => fun _ _ _ _ r h => by simp [check_Kept.l0] at h
  | k + 1 => by
    have ih0 := check_Kept.mono_l k
    intro y0 y1 y2 y3
    unfold check_Kept.l0
    exact LeO.ite (LeO.ite (ih0 _ _ _ _) (ih0 _ _ _ _)) (LeO.refl _)
theorem check_Kept.mono : ∀ a0 a1 k, LeO (check_Kept.f k a0 a1) (check_Kept.f (k + 1) a0 a1) := by
  intro a0 a1 k
  unfold check_Kept.f
  exact LeO.bind (check_May.mono _ _ k) fun t => LeO.ite (LeO.ite (LeO.bind (check_Kept.mono_l k _ _ _ _) fun n => LeO.refl _) (LeO.none _)) (LeO.refl _)
set_option maxHeartbeats 8000000 in
set_option maxRecDepth 100000 in
theorem check_Kept.bh (A0 : Option Addr) (c0 : Nat) (l0 : List (S27)) (a i : Int) (w : World) (hr0 : Kd.C k27 w A0 l0.length l0) (h0 : 0 ≤ i) (h1 : i < l0.length) :
    Calls Try.prog 26 #[.agg #[.slice A0 l0.length c0, .int .i64 a], .int .i64 i] w fun e w' => e = .returned (.bool (decide ((rd_T27 l0 i).f0 > a))) ∧ Below w.heap.size w w' := by
  obtain ⟨ad, rfl, hx0, hxs⟩ := at_T27 hr0 i h0 h1
  clear hxs
  have hlt := World.block_lt_of_cell? w _ hx0
  have hy0 := pw_cell_below (below_alloc (Below.refl _ _) (.cells #[.slice (some ad) l0.length c0, .int .i64 a] 48)) hx0
  have hd : decide (i < (l0.length : Int)) = true := decide_eq_true h1
  have hb1 : (w.alloc (.cells #[.slice (some ad) l0.length c0, .int .i64 a] 48)).cell? ⟨w.heap.size, 0, none⟩ = some (.slice (some ad) l0.length c0) := by simp
  have hb2 : (w.alloc (.cells #[.slice (some ad) l0.length c0, .int .i64 a] 48)).cell? ⟨w.heap.size, 1, none⟩ = some (.int .i64 a) := by simp
  have hbb : Below w.heap.size w (w.alloc (.cells #[.slice (some ad) l0.length c0, .int .i64 a] 48)) := below_alloc (Below.refl _ _) _
  have HBB := Aside0.mk hbb
  clear hbb hr0 hx0
  go_enter Try.func26, Try.ntmps26
  go_wp2
  go_quiet (fail)
  go_wp2
  go_ret
  exact ⟨rfl, pw_below_drewN HBB.out _⟩
set_option maxHeartbeats 8000000 in
set_option maxRecDepth 100000 in
theorem check_Kept.cl (A0 : Option Addr) (c0 : Nat) (l0 : List (S27)) (a i : Int) (g1 g2 g3 : Nat) (w : World) (hr0 : Kd.C k27 w A0 l0.length l0) (h0 : 0 ≤ i) (h1 : i < l0.length)
    (hg1 : w.cell? ⟨g1, 0, none⟩ = some (.func (.func 26) #[] #[])) (hg2 : w.cell? ⟨g2, 0, none⟩ = some (.slice A0 l0.length c0)) (hg3 : w.cell? ⟨g3, 0, none⟩ = some (.int .i64 a)) :
    Calls Try.prog 28 #[.int .i64 i, .pointer (some ⟨g1, 0, none⟩), .pointer (some ⟨g2, 0, none⟩), .pointer (some ⟨g3, 0, none⟩)] w fun e w' => e = .returned (.bool (decide ((rd_T27 l0 i).f0 > a))) ∧ Below w.heap.size w w' := by
  have HR0 := Aside0.mk hr0
  clear hr0
  go_enter Try.func28, Try.ntmps28
  go_wp2_with (go_at_call 26; refine (check_Kept.bh A0 c0 l0 a i _ HR0.out h0 h1).mono ?_; rintro e w' ⟨rfl, hb⟩; have HB := Aside0.mk hb; clear hb)
  go_ret
  exact ⟨rfl, HB.out⟩
set_option maxHeartbeats 8000000 in
set_option maxRecDepth 100000 in
theorem check_Kept.bs (k : Nat) (A0 : Option Addr) (c0 : Nat) (l0 : List (S27)) (at_ : Int) (r : Int) (g1 g2 g3 : Nat) (w : World) (hr0 : Kd.C k27 w A0 l0.length l0) (hl : l0.length < 3518437208883)
    (hg1 : w.cell? ⟨g1, 0, none⟩ = some (.func (.func 26) #[] #[])) (hg2 : w.cell? ⟨g2, 0, none⟩ = some (.slice A0 l0.length c0)) (hg3 : w.cell? ⟨g3, 0, none⟩ = some (.int .i64 at_)) (h : check_Kept.l0 k l0 at_ 0 l0.length = some r) :
    Calls Try.prog 27 #[.int .i64 (l0.length : Int), .func (.func 28) #[] #[.pointer (some ⟨g1, 0, none⟩), .pointer (some ⟨g2, 0, none⟩), .pointer (some ⟨g3, 0, none⟩)]] w
      fun e w' => e = .returned (.int .i64 r) ∧ 0 ≤ r ∧ r ≤ l0.length ∧ Below w.heap.size w w' := by
  have HR0 := Aside0.mk hr0
  have H' := Aside0.mk h
  have HG1 := Aside0.mk hg1
  have HG2 := Aside0.mk hg2
  have HG3 := Aside0.mk hg3
  clear hr0 h hg1 hg2 hg3
  have hlI : (l0.length : Int) < 3518437208883 := by omega
  go_enter Try.func27, Try.ntmps27
  go_wp2
  go_loopg [5, 6, 7] k (fun kq v9 v10 v7 w' => ∃ (x9 x10 : Int), v9 = .int .i64 x9 ∧ v10 = .int .i64 x10 ∧ 0 ≤ x9 ∧ x9 ≤ x10 ∧ x10 ≤ l0.length ∧ Aside0 (check_Kept.l0 kq l0 at_ x9 x10 = some r) ∧ Aside0 (kq ≤ k) ∧ Aside0 (Below w.heap.size w w'))
  case atStart => exact ⟨0, l0.length, rfl, rfl, by omega, by omega, by omega, H', ⟨Nat.le_refl _⟩, ⟨Below.refl _ _⟩⟩
  case round =>
    clear H'
    obtain ⟨x9, x10, rfl, rfl, h1, h2, h3, HA, HK, HB⟩ := hrel
    cases gk with
    | zero => exact absurd HA.out (by simp [check_Kept.l0])
    | succ k1 =>
      have H := HA.out
      clear HA
      simp only [check_Kept.l0] at H
      by_cases c1 : x9 < x10
      · rw [if_pos c1] at H
        have hd : decide (x9 < x10) = true := decide_eq_true c1
        have p1 : 0 ≤ (x9 + x10) / 2 := by omega
        have q1 : (x9 + x10) / 2 < (l0.length : Int) := by omega
        have m1 : x9 ≤ (x9 + x10) / 2 := by omega
        have m2 : (x9 + x10) / 2 < x10 := by omega
        by_cases c2 : (rd_T27 l0 ((x9 + x10) / 2)).f0 > at_
        · rw [if_pos c2] at H
          have HH := Aside0.mk H
          clear H
          go_wp2_with (go_at_call 28; refine (check_Kept.cl A0 c0 l0 at_ _ g1 g2 g3 _ (Kd.C_below HR0.out HB.out) p1 q1 (pw_cell_below HB.out HG1.out) (pw_cell_below HB.out HG2.out) (pw_cell_below HB.out HG3.out)).mono ?_; rintro e w' ⟨rfl, hb⟩; rw [decide_eq_true c2]; have HB2 := Aside0.mk (below_step HB.out hb); clear hb)
          go_roundg k1
          case measure => have := HK.out; omega
          case rel => exact ⟨x9, (x9 + x10) / 2, rfl, rfl, by omega, by omega, by omega, HH, ⟨by have := HK.out; omega⟩, HB2⟩
        · rw [if_neg c2] at H
          have HH := Aside0.mk H
          clear H
          go_wp2_with (go_at_call 28; refine (check_Kept.cl A0 c0 l0 at_ _ g1 g2 g3 _ (Kd.C_below HR0.out HB.out) p1 q1 (pw_cell_below HB.out HG1.out) (pw_cell_below HB.out HG2.out) (pw_cell_below HB.out HG3.out)).mono ?_; rintro e w' ⟨rfl, hb⟩; rw [decide_eq_false c2]; have HB2 := Aside0.mk (below_step HB.out hb); clear hb)
          go_roundg k1
          case measure => have := HK.out; omega
          case rel => exact ⟨(x9 + x10) / 2 + 1, x10, rfl, rfl, by omega, by omega, by omega, HH, ⟨by have := HK.out; omega⟩, HB2⟩
      · rw [if_neg c1] at H
        obtain rfl := Option.some.inj H
        have hd : decide (x9 < x10) = false := decide_eq_false c1
        go_wp2
        go_ret
        first | exact ⟨rfl, h1, by omega, HB.out⟩ | exact ⟨rfl, by omega, HB.out⟩
set_option maxHeartbeats 8000000 in
set_option maxRecDepth 100000 in
theorem check_Kept.calls (k : Nat) (A0 : Option Addr) (c0 : Nat) (l0 : List (S27)) (a1 : Int) (r : List (S27)) (w : World) (hr0 : Kd.C k27 w A0 l0.length l0) (hc0 : l0.length ≤ c0) (h : check_Kept.f k l0 a1 = some r) :
    Calls Try.prog 11 #[.slice A0 l0.length c0, .int .i64 a1] w fun e w' => ∃ v0_ : Value, e = .returned v0_ ∧ Kd.R k27 27 w' w.heap.size (fun _ => True) v0_ r ∧ Below w.heap.size w w' := by
  unfold check_Kept.f at h
  obtain ⟨t, ht, h⟩ := Option.bind_eq_some_iff.1 h
  have HR0 := Aside0.mk hr0
  have HC0 := Aside0.mk hc0
  have HT := Aside0.mk ht
  have HB2 := Aside0.mk (below_alloc (below_alloc (Below.refl w.heap.size w) (.cells #[.slice A0 l0.length c0] 22)) (.cells #[.int .i64 a1] 3))
  have HG2 := Aside0.mk (show ((w.alloc (.cells #[.slice A0 l0.length c0] 22)).alloc (.cells #[.int .i64 a1] 3)).cell? ⟨w.heap.size, 0, none⟩ = some (.slice A0 l0.length c0) by simp)
  have HG3 := Aside0.mk (show ((w.alloc (.cells #[.slice A0 l0.length c0] 22)).alloc (.cells #[.int .i64 a1] 3)).cell? ⟨w.heap.size + 1, 0, none⟩ = some (.int .i64 a1) by simp)
  clear hr0 hc0 ht
  by_cases c1 : t = 0
  · rw [if_pos c1] at h
    have d1 : (t == 0) = true := beq_iff_eq.mpr c1
    have d2 : (t != 0) = false := bne_eq_false_iff_eq.mpr c1
    clear c1
    split at h
    case isFalse => cases h
    rename_i hl
    obtain ⟨n, hn, h⟩ := Option.bind_eq_some_iff.1 h
    have HL := Aside0.mk hl
    have HN := Aside0.mk hn
    have HH := Aside0.mk h
    clear hl hn h
    go_enter Try.func11, Try.ntmps11
    go_wp2_with (first | (go_at_call 20; refine (check_May.calls k _ _ _ 500 t _ (Kd.C_below HR0.out HB2.out) HC0.out HT.out).mono ?_; rintro e w3 ⟨rfl, hb⟩; have HB := Aside0.mk (below_step HB2.out hb); have HGa := pw_cell_below hb HG2.out; have HGb := pw_cell_below hb HG3.out; have hbx := Boxed.new w3 45 .nilFunc; have hfc := hbx.cell; have hfz := hbx.frozen; clear hbx; have hg1 := (Boxed.new w3 45 (.func (.func 26) #[] #[])).cell; have HGc := pw_cell_below (below_alloc (Below.refl _ _) (.cells #[.func (.func 26) #[] #[]] 45)) HGa; have HGd := pw_cell_below (below_alloc (Below.refl _ _) (.cells #[.func (.func 26) #[] #[]] 45)) HGb; have HB4 := Aside0.mk (below_alloc HB.out (.cells #[.func (.func 26) #[] #[]] 45)); clear hb) | (go_at_call 27; refine (check_Kept.bs k A0 c0 l0 a1 n w3.heap.size w.heap.size (w.heap.size + 1) _ (Kd.C_below HR0.out HB4.out) HL.out hg1 HGc HGd HN.out).mono ?_; rintro e w5 ⟨rfl, n0, n1, hb⟩; have HB5 := Aside0.mk (below_step HB4.out hb); have HGe := pw_cell_below hb HGc; have n2 : n ≤ (c0 : Int) := (by have := HC0.out; omega); clear hb) | (go_at_call 29; have hlen : (l0.take n.toNat).length = n.toNat := (by rw [List.length_take]; omega); have hcl := slices_Clone.calls A0 c0 (l0.take n.toNat) r w5 (Kd.C_take (Kd.C_below HR0.out HB5.out) (by omega)) (by rw [hlen]; omega) HH.out; rw [hlen] at hcl; refine hcl.mono ?_; rintro e w' ⟨v0_, rfl, hR, hb⟩; have HB6 := Aside0.mk (below_step HB5.out hb); have HR6 := Aside0.mk (Kd.R_lower hR (below_size HB5.out)); clear hR hb))
    go_ret
    exact ⟨_, rfl, HR6.out, HB6.out⟩
  · rw [if_neg c1] at h
    have d1 : (t == 0) = false := beq_eq_false_iff_ne.mpr c1
    have d2 : (t != 0) = true := bne_iff_ne.mpr c1
    obtain rfl := Option.some.inj h
    go_enter Try.func11, Try.ntmps11
    go_wp2_with (go_at_call 20; refine (check_May.calls k _ _ _ 500 t _ (Kd.C_below HR0.out HB2.out) HC0.out HT.out).mono ?_; rintro e w3 ⟨rfl, hb⟩; have HB := Aside0.mk (below_step HB2.out hb); have HGa := pw_cell_below hb HG2.out; have HGb := pw_cell_below hb HG3.out; clear hb)
    go_ret
    exact ⟨_, rfl, Kd.R_nil _ _ _ _ _, HB.out⟩

end Go.Proofs.Ytgippbgcmmjnbaa.XB
