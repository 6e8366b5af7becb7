import Derived.Test.YtncmbkjjoamfjaaP1
namespace Go.Proofs.Ytncmbkjjoamfjaa.H
open Go.RowKit Go.Proofs.Ytncmbkjjoamfjaa.XH Go.Proofs.YtncmbkjjoamfjaaW.PrintWords Go.Proofs.YtncmbkjjoamfjaaW.PrintLast Go.Proofs.YtncmbkjjoamfjaaW.PrintMore Go.Proofs.YtncmbkjjoamfjaaXe Go.Proofs.YtncmbkjjoamfjaaXs
set_option linter.unusedVariables false
set_option linter.unusedSimpArgs false
attribute [local go_sem ↓] Go.wp_at_zero Go.wp_at_succ
attribute [local go_sem] valUpon
section
variable {w0 W : World} {Rs : List Res}
theorem zeroUL (a b : Nat) : u8s (List.replicate a 0) ++ u8s (List.replicate b 0) = u8s (List.replicate (a + b) 0) := by simp [u8s]
theorem zeroU' (k : Nat) : Builtin.zeroCells #[Value.int .u8 0] k = (u8s (List.replicate k 0)).toArray := zeroU k
theorem runs0 (W : World) (A : Option Addr) (xs : List Int) (cap m : Nat) (ty : TypeId) (kx : IntKind) (hcap : cap < xs.length + m) (hm : m ≠ 0) (hb : xs.length + m ≤ 100000000000000) (hfo : (Builtin.firstCells 1 xs.length (.slice A xs.length cap)).run Try.prog W.drew = .ok (u8s xs).toArray W.drew) :
    (Builtin.append_ #[22, 3] ty #[.slice A xs.length cap, .int kx m]).run Try.prog W = .ok (.slice (some ⟨W.heap.size, 0, none⟩) (xs.length + m) (grownCap W (xs.length + m) cap 5)) (W.drew.alloc (.cells (u8s (xs ++ List.replicate m 0 ++ List.replicate (grownCap W (xs.length + m) cap 5 - (xs.length + m)) 0)).toArray 5)) := by
  obtain ⟨i, hi, hz, hs, hbb⟩ := info_parts info5
  have hn : ¬ (xs.length + m ≤ cap) := by omega
  have h63' : ¬ (9223372036854775807 < ((xs.length : Int) + (m : Int))) := by omega
  have hfit := growslice_fits (need := xs.length + m) (old := cap) (bytes := 1) hcap (by omega)
  have h48' : ¬ (281474976710656 < Builtin.nextslicecap (xs.length + m) cap * i.bytes) := by rw [hbb]; omega
  have hw : IntKind.i64.wrap (m : Int) = m := by rw [IntKind.wrap_i64]; omega
  have hneg : ¬ ((m : Int) < 0) := by omega
  have hbig : ¬ (281474976710656 < (m : Int) * (i.bytes : Int)) := by rw [hbb]; omega
  have hmz : ¬ (m * i.size = 0) := by rw [hs]; omega
  rw [← hs] at hfo
  simp [Builtin.append_, run_underlying Try.underlying22, run_underlying Try.underlying3, sizeOf, typeInfo, zeroValue, hi, hz, asInt, asIntOf, hw, hneg, hbig, hn, h63', h48', Question.forced, hfo, newRow, grownCap, hmz, zeroU, zeroU', u8s_app, List.append_assoc]
  rw [← zeroUL]
/-- noughts made -/
theorem zerosN (W : World) (m : Nat) (h1 : 1 ≤ m) (h2 : m ≤ 100000000000000) (ty : TypeId) (kx : IntKind) :
    ∃ cp, (Builtin.append_ #[22, 3] ty #[.slice none 0 0, .int kx m]).run Try.prog W = .ok (.slice (some ⟨W.heap.size, 0, none⟩) m cp) (W.drew.alloc (.cells (u8s (List.replicate cp 0)).toArray 5)) ∧ m ≤ cp ∧ cp ≤ 9223372036854775807 := by
  have h := runs0 W none [] 0 m ty kx (by simp; omega) (by omega) (by simp; omega) (by simp [Builtin.firstCells, u8s])
  have hge := grownCap_ge W m 0 5
  have hle := grownCap_le_maxLen W m 0 5 (by simp only [maxLen]; omega)
  simp only [List.length_nil, Nat.zero_add, List.nil_append] at h
  obtain ⟨cp, hcp⟩ : ∃ z, grownCap W m 0 5 = z := ⟨_, rfl⟩
  rw [hcp] at h hge hle
  rw [u8s_app, zeroUL, show m + (cp - m) = cp by omega] at h
  exact ⟨cp, h, hge, by simp only [maxLen] at hle; omega⟩
/-- noughts are appended to a block's first n -/
theorem zeros8 (HP : Hp w0 W Rs) (i g n : Nat) (l : List Int) (hi : Rs[i]? = some (.blk g (.cells (u8s l).toArray 5 (0, 0)))) (hn : n ≤ l.length) (m : Nat) (hb : n + m ≤ 100000000000000) (ty : TypeId) (kx : IntKind) :
    ∃ w1 g1 l1, (Builtin.append_ #[22, 3] ty #[.slice (some ⟨g, 0, none⟩) n l.length, .int kx m]).run Try.prog W = .ok (.slice (some ⟨g1, 0, none⟩) (n + m) l1.length) w1 ∧ n + m ≤ l1.length ∧ l1.take (n + m) = l.take n ++ List.replicate m 0 ∧ (l.length ≤ 9223372036854775807 → l1.length ≤ 9223372036854775807) ∧ Hp w0 w1 (Rs.set i (.blk g1 (.cells (u8s l1).toArray 5 (0, 0)))) := by
  have hg := HP.blk i hi
  obtain ⟨inf, hi1, hiz, his, hib⟩ := info_parts info5
  have hw : IntKind.i64.wrap (m : Int) = m := by rw [IntKind.wrap_i64]; omega
  have hneg : ¬ ((m : Int) < 0) := by omega
  have hbig : ¬ (281474976710656 < (m : Int) * (inf.bytes : Int)) := by rw [hib]; omega
  by_cases h0 : m = 0
  · subst h0
    have hw0 : IntKind.i64.wrap 0 = 0 := by rw [IntKind.wrap_i64]; rfl
    refine ⟨W, g, l, ?_, by omega, by simp, id, by rw [set_self hi]; exact HP⟩
    simp [Builtin.append_, run_underlying Try.underlying22, run_underlying Try.underlying3, sizeOf, typeInfo, hi1, asInt, asIntOf, hw0, hn, storeCells]
  have hmz : ¬ (m * inf.size = 0) := by rw [his]; omega
  have h1v : ∀ u ∈ u8s (List.replicate m 0), u.oneCell' = true := fun u hu => by simp [u8s] at hu; rw [hu.2]; rfl
  by_cases hr : n + m ≤ l.length
  · have hfit : n + (u8s (List.replicate m 0)).length ≤ (u8s l).toArray.size := by rw [List.size_toArray, u8s_len, u8s_len, List.length_replicate]; omega
    obtain ⟨cur', h2, h3, h4⟩ := setCells_row (u8s (List.replicate m 0)) n W (u8s l).toArray hg hfit
    obtain ⟨k1, k2, k3, k4⟩ := setCells_same g (u8s (List.replicate m 0)) n W
    have hst := run_storeCells_cells (P := Try.prog) g n (u8s (List.replicate m 0)) 0 W (fun j hj => by rw [cell_of_row W g _ _ _ _ hg]; rw [u8s_len, List.length_replicate] at hj; simp [u8s]; omega) (fun j _ => frozC hg _) h1v
    simp only [Nat.add_zero] at hst
    have hl1 : (l.take n ++ List.replicate m 0 ++ l.drop (n + m)).length = l.length := by simp; omega
    refine ⟨W.setCells g n (u8s (List.replicate m 0)), g, l.take n ++ List.replicate m 0 ++ l.drop (n + m), ?_, by omega, ?_, fun h => by omega, ?_⟩
    · rw [hl1]
      simp [Builtin.append_, run_underlying Try.underlying22, run_underlying Try.underlying3, sizeOf, typeInfo, zeroValue, hi1, hiz, asInt, asIntOf, hw, hneg, hbig, hr, hmz, h0, zeroU, his, add_at, hst]
    · rw [List.take_left' (by simp; omega)]
    · refine HP.setB i hi ⟨k1, k2, k3, Nat.le_of_eq k4.symm, fun k _ hk => setCells_far (u8s (List.replicate m 0)) n k fun e => hk (by rw [e])⟩ ?_
      rw [h2, u8s_app, u8s_app, u8s_take, u8s_drop]
      congr 2
      apply Array.ext'
      rw [h4, u8s_len, List.length_replicate]
  · have hln : (l.take n).length = n := by rw [List.length_take]; omega
    have hcells : ∀ j v, (u8s (l.take n))[j]? = some v → W.drew.cell? ((⟨g, 0, none⟩ : Addr).add j) = some v := fun j v hj => by
      rw [show (⟨g, 0, none⟩ : Addr).add j = ⟨g, j, none⟩ from by rw [add_at, Nat.zero_add], show W.drew.cell? ⟨g, j, none⟩ = W.cell? ⟨g, j, none⟩ from rfl, cell_of_row W g _ _ _ _ hg]
      rw [u8s_take, List.getElem?_take] at hj
      split at hj
      · simpa using hj
      · cases hj
    have hfo := run_firstCells_some (P := Try.prog) W.drew 1 n ⟨g, 0, none⟩ n l.length (u8s (l.take n)) (by rw [u8s_len, hln]; omega) hcells
    have hrun := runs0 W (some ⟨g, 0, none⟩) (l.take n) l.length m ty kx (by omega) h0 (by omega) (by rw [hln]; exact hfo)
    rw [hln] at hrun
    have hge := grownCap_ge W (n + m) l.length 5
    have hle := grownCap_le_maxLen W (n + m) l.length 5 (by simp only [maxLen]; omega)
    obtain ⟨cp, hcp⟩ : ∃ z, grownCap W (n + m) l.length 5 = z := ⟨_, rfl⟩
    rw [hcp] at hrun hge hle
    have hl1 : (l.take n ++ List.replicate m 0 ++ List.replicate (cp - (n + m)) 0).length = cp := by simp; omega
    refine ⟨_, W.heap.size, l.take n ++ List.replicate m 0 ++ List.replicate (cp - (n + m)) 0, by rw [hl1]; exact hrun, by omega, ?_, fun _ => by rw [hl1]; simp only [maxLen] at hle; omega, ?_⟩
    · rw [List.take_left' (by simp; omega)]
    · exact Hp.setNew HP i hi (drewA_below _) (blk_new W.drew _) (Nat.le_refl _)
end
end Go.Proofs.Ytncmbkjjoamfjaa.H
