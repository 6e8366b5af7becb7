import Derived.Test.YtncmbkjjoamfjaaK7
namespace Go.Proofs.Ytncmbkjjoamfjaa.H
open Go.RowKit Go.Proofs.Ytncmbkjjoamfjaa.XH Go.Proofs.YtncmbkjjoamfjaaW.PrintWords Go.Proofs.YtncmbkjjoamfjaaW.PrintLast Go.Proofs.YtncmbkjjoamfjaaW.PrintMore Go.Proofs.YtncmbkjjoamfjaaXe Go.Proofs.YtncmbkjjoamfjaaXs
set_option linter.unusedVariables false
set_option linter.unusedSimpArgs false
attribute [local go_sem ↓] Go.wp_at_zero Go.wp_at_succ
attribute [local go_sem] valUpon
section
variable {w0 W : World} {Rs : List Res}
theorem cells_of_C {A : Option Addr} {m : Nat} {ys : List Int} {ad : Addr} (hA : A = some ad) (hC : Kd.C (Kd.int .u8) W A m ys) : ∀ j v, (u8s ys)[j]? = some v → W.cell? (ad.add j) = some v := by
  intro j v hj
  have hm := hC.1
  have hjl : j < ys.length := by have := (List.getElem?_eq_some_iff.1 hj).1; rwa [u8s_len] at this
  obtain ⟨ak, e, hx⟩ := Kd.at_int hC (j : Int) (by omega) (by omega)
  rw [hA] at e
  cases e
  rw [Int.toNat_natCast] at hx
  rw [hx, ← hj]
  simp [u8s, Go.Proofs.YtncmbkjjoamfjaaW.PrintWords.rd, hjl]
theorem u8s_app (a b : List Int) : u8s (a ++ b) = u8s a ++ u8s b := by simp [u8s]
theorem u8s_take (a : List Int) (n : Nat) : u8s (a.take n) = (u8s a).take n := by simp [u8s]
theorem u8s_drop (a : List Int) (n : Nat) : u8s (a.drop n) = (u8s a).drop n := by simp [u8s]
theorem zeroU (k : Nat) : Builtin.zeroCells (Value.int .u8 0).cells k = (u8s (List.replicate k 0)).toArray := by
  apply Array.ext'
  simp [Builtin.zeroCells, Value.cells, u8s, Nat.mod_one, List.map_const']
theorem Hp.setNew (HP : Hp w0 W Rs) (i : Nat) {R : Res} (hi : Rs[i]? = some R) {w1 : World} (hb : Below W.heap.size W w1) {g : Nat} {o : Obj} (hg : w1.heap[g]? = some o) (hge : W.heap.size ≤ g) : Hp w0 w1 (Rs.set i (.blk g o)) := by
  obtain ⟨F, h1, h2, _, h3⟩ := HP.upd i hi
  exact h3 w1 (.blk g o) (fun k => k = g) (below_then HP.below HP.below.size hb) ⟨hg, fun _ => Iff.rfl⟩ (fun k hk => .inr (by omega)) (fun k hk _ => hb.block k hk)
theorem drewA_below (o : Obj) : Below W.heap.size W (W.drew.alloc o) := below_alloc (Below.refl _ _).drew o
/-- a row is appended to a block's first n -/
theorem app8 (HP : Hp w0 W Rs) (i g n : Nat) (l ys : List Int) (hi : Rs[i]? = some (.blk g (.cells (u8s l).toArray 5 (0, 0)))) (hn : n ≤ l.length) (A : Option Addr) (m c : Nat) (hC : Kd.C (Kd.int .u8) W A m ys) (hb : n + m ≤ 100000000000000) (ty : TypeId) :
    ∃ w1 g1 l1, (Builtin.append_ #[22, 22] ty #[.slice (some ⟨g, 0, none⟩) n l.length, .slice A m c]).run Try.prog W = .ok (.slice (some ⟨g1, 0, none⟩) (n + m) l1.length) w1 ∧ n + m ≤ l1.length ∧ l1.take (n + m) = l.take n ++ ys ∧ (l.length ≤ 9223372036854775807 → l1.length ≤ 9223372036854775807) ∧ Hp w0 w1 (Rs.set i (.blk g1 (.cells (u8s l1).toArray 5 (0, 0)))) := by
  have hm : ys.length = m := hC.1
  have hg := HP.blk i hi
  obtain ⟨inf, hi1, hiz, his, hib⟩ := info_parts info5
  by_cases h0 : m = 0
  · subst h0
    obtain rfl : ys = [] := List.eq_nil_of_length_eq_zero hm
    refine ⟨W, g, l, ?_, by omega, by simp, id, by rw [set_self hi]; exact HP⟩
    rcases A with _ | ad
    · simp [Builtin.append_, run_underlying Try.underlying22, sizeOf, typeInfo, hi1, Builtin.lenOf, Builtin.firstCells, hn, storeCells]
    · have h1 := run_append_room_cells (P := Try.prog) W 22 ty 5 inf Try.underlying22 hi1 g 0 n l.length ad 0 c [] (by simp) (by simp) (by simp) (by omega) (by simp) (by simp)
      exact h1
  obtain ⟨ad, hA⟩ : ∃ ad, A = some ad := by
    obtain ⟨ad, e, _⟩ := Kd.at_int hC 0 (by omega) (by omega)
    exact ⟨ad, e⟩
  have hnews := cells_of_C hA hC
  subst hA
  have hlen : (u8s ys).length = m * inf.size := by rw [u8s_len, his]; omega
  have h1v : ∀ u ∈ u8s ys, u.oneCell' = true := fun u hu => by simp [u8s] at hu; obtain ⟨x, _, rfl⟩ := hu; rfl
  by_cases hr : n + m ≤ l.length
  · have hrun := run_append_room_cells (P := Try.prog) W 22 ty 5 inf Try.underlying22 hi1 g 0 n l.length ad m c (u8s ys) hlen hnews h1v hr (fun j hj => by rw [cell_of_row W g _ _ _ _ hg]; rw [u8s_len] at hj; simp [u8s, his]; omega) (fun j hj => frozC hg _)
    rw [his, Nat.zero_add, Nat.mul_one] at hrun
    have hfit : n + (u8s ys).length ≤ (u8s l).toArray.size := by rw [List.size_toArray, u8s_len, u8s_len]; omega
    obtain ⟨cur', h2, h3, h4⟩ := setCells_row (u8s ys) n W (u8s l).toArray hg hfit
    obtain ⟨k1, k2, k3, k4⟩ := setCells_same g (u8s ys) n W
    have hl1 : (l.take n ++ ys ++ l.drop (n + ys.length)).length = l.length := by simp; omega
    refine ⟨_, g, l.take n ++ ys ++ l.drop (n + ys.length), by rw [hl1]; exact hrun, by omega, ?_, fun h => by omega, ?_⟩
    · rw [List.take_left' (by simp; omega)]
    · refine HP.setB i hi ⟨k1, k2, k3, Nat.le_of_eq k4.symm, fun k _ hk => setCells_far (u8s ys) n k fun e => hk (by rw [e])⟩ ?_
      rw [h2, u8s_app, u8s_app, u8s_take, u8s_drop]
      congr 2
      apply Array.ext'
      rw [h4, u8s_len]
  · have hcells : ∀ j v, ((u8s l).take n)[j]? = some v → W.cell? ((⟨g, 0, none⟩ : Addr).add j) = some v := fun j v hj => by
      rw [show (⟨g, 0, none⟩ : Addr).add j = ⟨g, j, none⟩ from by rw [add_at, Nat.zero_add], cell_of_row W g _ _ _ _ hg]
      rw [List.getElem?_take] at hj
      split at hj
      · simpa using hj
      · cases hj
    have hrun := run_append_grow (P := Try.prog) W 22 ty 5 inf (.int .u8 0) Try.underlying22 hi1 hiz ⟨g, 0, none⟩ n l.length ((u8s l).take n) (by rw [List.length_take, u8s_len, his]; omega) hcells ad m c (u8s ys) hlen hnews (by omega) (by omega) (growslice_fits (by omega) (by rw [hib]; omega))
    have hge := grownCap_ge W (n + m) l.length 5
    have hle := grownCap_le_maxLen W (n + m) l.length 5 (by simp only [maxLen]; omega)
    obtain ⟨cp, hcp⟩ : ∃ z, grownCap W (n + m) l.length 5 = z := ⟨_, rfl⟩
    rw [hcp] at hrun hge hle
    have hl1 : (l.take n ++ ys ++ List.replicate (cp - (n + m)) 0).length = cp := by simp; omega
    have hcs : (u8s l).take n ++ u8s ys ++ u8s (List.replicate (cp - (n + m)) 0) = u8s (l.take n ++ ys ++ List.replicate (cp - (n + m)) 0) := by rw [u8s_app, u8s_app, u8s_take]
    rw [zeroU, List.append_toArray, List.append_toArray, hcs] at hrun
    refine ⟨_, W.heap.size, l.take n ++ ys ++ List.replicate (cp - (n + m)) 0, by rw [hl1]; exact hrun, by omega, ?_, fun _ => by rw [hl1]; simp only [maxLen] at hle; omega, ?_⟩
    · rw [List.take_left' (by simp; omega)]
    · exact Hp.setNew HP i hi (drewA_below _) (blk_new W.drew _) (Nat.le_refl _)
end
set_option maxHeartbeats 8000000 in
set_option maxRecDepth 100000 in
theorem c_overM {w0 w : World} {Rs : List Res} (HP0 : Hp w0 w Rs) (i g : Nat) (l : List Int) (n : Nat) (hi : Rs[i]? = some (.blk g (.cells (u8s l).toArray 5 (0, 0)))) (hn : n ≤ l.length) (hm : l.length ≤ 9223372036854775807) :
    Calls Try.prog 17 #[.slice (some ⟨g, 0, none⟩) n l.length] w fun e w' => e = .returned (.tuple #[]) ∧ ∃ l' : List Int, l'.length = l.length ∧ Hp w0 w' (Rs.set i (.blk g (.cells (u8s l').toArray 5 (0, 0)))) := by
  have hlt : i < Rs.length := (List.getElem?_eq_some_iff.1 hi).1
  have HP := Aside0.mk (show Hp w0 w (Rs.set i (.blk g (.cells (u8s l).toArray 5 (0, 0)))) from by rw [set_self hi]; exact HP0)
  have HM := Aside0.mk hm
  have HI := Aside0.mk hlt
  have k0 : (n : Int) ≤ (l.length : Int) := by omega
  have k1 : (0 : Int) ≤ (l.length : Int) := by omega
  clear hm hlt hi HP0
  go_enter Try.func17, Try.ntmps17
  go_wp2_with fail
  clear k0
  go_loopg [3] l.length (fun kq v3 w' => ∃ (j : Nat) (x : Int) (l' : List Int), v3 = .int .i64 x ∧ Aside0 (x = (j : Int)) ∧ Aside0 (kq + j = l.length) ∧ Aside0 (l'.length = l.length) ∧ Aside0 (Hp w0 w' (Rs.set i (.blk g (.cells (u8s l').toArray 5 (0, 0))))))
  case atStart => exact ⟨0, 0, l, rfl, ⟨rfl⟩, ⟨rfl⟩, ⟨rfl⟩, HP⟩
  clear HP
  obtain ⟨j, x, l', rfl, HX, HK, HL, HP⟩ := hrel
  have hx := HX.out
  have hm := HM.out
  have hset : ∀ R, (Rs.set i R)[i]? = some R := fun R => by rw [List.getElem?_set]; simp [HI.out]
  by_cases c1 : j < l.length
  · have d1 : decide (x < (l.length : Int)) = true := decide_eq_true (by omega)
    have ex := i64k (x := x + 1) rfl (by omega)
    have p0 : 0 ≤ x := by omega
    have q0 : x < (l.length : Int) := by omega
    have hcw := cellL (HP.out.blk i (hset _)) x p0 (by rw [HL.out]; exact q0)
    have hfw := frozC (HP.out.blk i (hset _)) x.toNat
    obtain ⟨c, hc⟩ : ∃ c, rd l' x = c := ⟨_, rfl⟩
    rw [hc] at hcw
    have HC1 := Aside0.mk c1
    clear hx hm c1 hset hc
    go_wp2
    have hset : ∀ R, (Rs.set i R)[i]? = some R := fun R => by rw [List.getElem?_set]; simp [HI.out]
    have HPn := HP.out.setCell i (hset _) x.toNat (.int .u8 (Go.bits .xor .u8 c 90))
    rw [List.set_set, show (u8s l').toArray.setIfInBounds x.toNat (.int .u8 (Go.bits .xor .u8 c 90)) = (u8s (l'.set x.toNat (Go.bits .xor .u8 c 90))).toArray from setL (k := .u8) _ _ _] at HPn
    go_roundg (gk - 1)
    case measure => have := HK.out; have := HC1.out; omega
    case rel => exact ⟨j + 1, x + 1, _, by simp, ⟨by have := HX.out; omega⟩, ⟨by have := HK.out; have := HC1.out; omega⟩, ⟨by rw [List.length_set]; exact HL.out⟩, ⟨HPn⟩⟩
  · have d1 : decide (x < (l.length : Int)) = false := decide_eq_false (by have := HK.out; omega)
    clear hx hm hset c1
    go_wp2
    exact bodyPost_end (v := .tuple #[]) (by simp [results, Try.results17, go_sem]) rfl ⟨rfl, l', HL.out, HP.out⟩
end Go.Proofs.Ytncmbkjjoamfjaa.H
