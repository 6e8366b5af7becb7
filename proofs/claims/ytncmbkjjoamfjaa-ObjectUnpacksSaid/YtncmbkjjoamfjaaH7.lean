import Derived.Test.YtncmbkjjoamfjaaH6
import Derived.Test.YtncmbkjjoamfjaaXHgR
namespace Go.Proofs.Ytncmbkjjoamfjaa.H
open Go.RowKit Go.Proofs.Ytncmbkjjoamfjaa.XH Go.Proofs.YtncmbkjjoamfjaaW.PrintWords Go.Proofs.YtncmbkjjoamfjaaW.PrintLast Go.Proofs.YtncmbkjjoamfjaaW.PrintMore Go.Proofs.YtncmbkjjoamfjaaXe Go.Proofs.YtncmbkjjoamfjaaXs
set_option linter.unusedVariables false
set_option linter.unusedSimpArgs false
attribute [local go_sem ↓] Go.wp_at_zero Go.wp_at_succ
attribute [local go_sem] valUpon
attribute [local go_sem ↓ high] bn67 bn69 bn29
attribute [local go_sem high] BN67.run BN69.run BN29.run
/-- bytes -/
def Bytes (l : List Int) : Prop := ∀ x ∈ l, 0 ≤ x ∧ x < 256
theorem Bytes.rd {l : List Int} (h : Bytes l) (i : Int) : 0 ≤ rd l i ∧ rd l i < 256 := by
  unfold Go.Proofs.YtncmbkjjoamfjaaW.PrintWords.rd
  by_cases hi : i.toNat < l.length
  · rw [List.getD_eq_getElem?_getD, List.getElem?_eq_getElem hi]; exact h _ (List.getElem_mem hi)
  · rw [List.getD_eq_getElem?_getD, List.getElem?_eq_none (by omega)]; decide
theorem r_f (x n : Int) (h1 : 1 ≤ n) (h2 : n ≤ 31) : retconref02_r.f x n = some (rot x n) := by
  have h : wrap64 (32 - n) = 32 - n := by unfold wrap64; omega
  unfold retconref02_r.f
  rw [h, if_pos (by omega), if_pos (by omega)]
  rfl
theorem lowP_f (x : Int) : retconref02_lowerP.f x = some (Go.bits .xor .u32 (Go.bits .xor .u32 (rot x 7) (rot x 18)) (x / 8)) := by
  unfold retconref02_lowerP.f
  rw [r_f x 7 (by decide) (by decide), r_f x 18 (by decide) (by decide)]; rfl
theorem lowQ_f (x : Int) : retconref02_lowerQ.f x = some (Go.bits .xor .u32 (Go.bits .xor .u32 (rot x 17) (rot x 19)) (x / 1024)) := by
  unfold retconref02_lowerQ.f
  rw [r_f x 17 (by decide) (by decide), r_f x 19 (by decide) (by decide)]; rfl
theorem upE_f (x : Int) : retconref02_upperE.f x = some (Go.bits .xor .u32 (Go.bits .xor .u32 (rot x 6) (rot x 11)) (rot x 25)) := by
  unfold retconref02_upperE.f
  rw [r_f x 6 (by decide) (by decide), r_f x 11 (by decide) (by decide), r_f x 25 (by decide) (by decide)]; rfl
theorem upA_f (x : Int) : retconref02_upperA.f x = some (Go.bits .xor .u32 (Go.bits .xor .u32 (rot x 2) (rot x 13)) (rot x 22)) := by
  unfold retconref02_upperA.f
  rw [r_f x 2 (by decide) (by decide), r_f x 13 (by decide) (by decide), r_f x 22 (by decide) (by decide)]; rfl
theorem wraps_u32 (n : Int) (h0 : 0 ≤ n) (h1 : n < 2 ^ 32) : IntKind.u32.wrap n = n := by rw [IntKind.wrap_u32]; omega
theorem or_u32 (i : Nat) (x y : Int) (hx0 : 0 ≤ x) (hx : x % 2 ^ i = 0) (hx1 : x < 2 ^ 32) (hy0 : 0 ≤ y) (hy : y < 2 ^ i) (hy1 : y < 2 ^ 32) : Go.bits .or .u32 x y = x + y := Go.bits_join .u32 32 (by decide) wraps_u32 i x y hx0 hx hx1 hy0 hy hy1
/-- four bytes, one behind the other, are a word -/
theorem word4_eq (a b c d : Int) (ha : 0 ≤ a ∧ a < 256) (hb : 0 ≤ b ∧ b < 256) (hc : 0 ≤ c ∧ c < 256) (hd : 0 ≤ d ∧ d < 256) : word4 a b c d = ((a * 256 + b) * 256 + c) * 256 + d := by
  unfold word4
  have e1 : a % 4294967296 * 16777216 % 4294967296 = a * 16777216 := by omega
  have e2 : b % 4294967296 * 65536 % 4294967296 = b * 65536 := by omega
  have e3 : c % 4294967296 * 256 % 4294967296 = c * 256 := by omega
  have e4 : d % 4294967296 = d := by omega
  rw [e1, e2, e3, e4, or_u32 24 (a * 16777216) (b * 65536) (by omega) (by omega) (by omega) (by omega) (by omega) (by omega), or_u32 16 (a * 16777216 + b * 65536) (c * 256) (by omega) (by omega) (by omega) (by omega) (by omega) (by omega), or_u32 8 (a * 16777216 + b * 65536 + c * 256) d (by omega) (by omega) (by omega) (by omega) (by omega) (by omega)]
  omega
theorem w64 (n : Int) (h0 : -9223372036854775808 ≤ n) (h1 : n ≤ 9223372036854775807) : wrap64 n = n := by unfold wrap64; omega
theorem l1_step {b X : List Int} {t x i y j : Int} {k : Nat} (hi : i < 4) (hy : wrap64 (wrap64 (4 * t) + i) = y) (h0 : 0 ≤ y) (h1 : y < (b.length : Int)) (hj : wrap64 (i + 1) = j) :
    retconref02_schedule.l1 (k + 1) b X t x i = retconref02_schedule.l1 k b X t ((x * 256 % 4294967296 + rd b y % 4294967296) % 4294967296) j := by
  conv => lhs; unfold retconref02_schedule.l1
  simp only [hy, hj, hi, h0, h1, if_true]
theorem l1_end {b X : List Int} {t x i t' : Int} {k : Nat} (hi : ¬ i < 4) (hX : X.length < 35184372088832) (ht : wrap64 (t + 1) = t') : retconref02_schedule.l1 (k + 1) b X t x i = retconref02_schedule.l0 k b (X ++ [x]) t' := by
  conv => lhs; unfold retconref02_schedule.l1
  simp only [hi, hX, ht, if_true, if_false]
theorem byte_sum {x a0 a1 a2 a3 : Int} (hx : x = 0) (h0 : 0 ≤ a0 ∧ a0 < 256) (h1 : 0 ≤ a1 ∧ a1 < 256) (h2 : 0 ≤ a2 ∧ a2 < 256) (h3 : 0 ≤ a3 ∧ a3 < 256) :
    ((((((((x * 256 % 4294967296 + a0 % 4294967296) % 4294967296) * 256 % 4294967296 + a1 % 4294967296) % 4294967296) * 256 % 4294967296 + a2 % 4294967296) % 4294967296) * 256 % 4294967296 + a3 % 4294967296) % 4294967296 : Int) = ((a0 * 256 + a1) * 256 + a2) * 256 + a3 := by omega
theorem sched_in {b : List Int} (hB : Bytes b) (hb : b.length = 64) (X : List Int) (t : Nat) (ht : t < 16) (hX : X.length < 35184372088832) (k : Nat) (x i0 : Int) (hx : x = 0) (hi0 : i0 = 0) :
    retconref02_schedule.l1 (k + 5) b X t x i0 = retconref02_schedule.l0 k b (X ++ [word b t]) ((t + 1 : Nat) : Int) := by
  have k0 : i0 < 4 := by omega
  have p0 : (0 : Int) ≤ 4 * t := by omega
  have q0 : (4 * t : Int) < (b.length : Int) := by omega
  have p1 : (0 : Int) ≤ 4 * t + 1 := by omega
  have q1 : (4 * t + 1 : Int) < (b.length : Int) := by omega
  have p2 : (0 : Int) ≤ 4 * t + 2 := by omega
  have q2 : (4 * t + 2 : Int) < (b.length : Int) := by omega
  have p3 : (0 : Int) ≤ 4 * t + 3 := by omega
  have q3 : (4 * t + 3 : Int) < (b.length : Int) := by omega
  have h0 := hB.rd (4 * t)
  have h1 := hB.rd (4 * t + 1)
  have h2 := hB.rd (4 * t + 2)
  have h3 := hB.rd (4 * t + 3)
  have hw : word b t = ((rd b (4 * t) * 256 + rd b (4 * t + 1)) * 256 + rd b (4 * t + 2)) * 256 + rd b (4 * t + 3) := word4_eq _ _ _ _ h0 h1 h2 h3
  have f0 : wrap64 (4 * (t : Int)) = 4 * t := w64 _ (by omega) (by omega)
  have g0 : wrap64 (wrap64 (4 * (t : Int)) + i0) = 4 * t := by rw [f0]; unfold wrap64; omega
  have g1 : wrap64 (wrap64 (4 * (t : Int)) + 1) = 4 * t + 1 := by rw [f0]; unfold wrap64; omega
  have g2 : wrap64 (wrap64 (4 * (t : Int)) + 2) = 4 * t + 2 := by rw [f0]; unfold wrap64; omega
  have g3 : wrap64 (wrap64 (4 * (t : Int)) + 3) = 4 * t + 3 := by rw [f0]; unfold wrap64; omega
  have gt : wrap64 ((t : Int) + 1) = ((t + 1 : Nat) : Int) := by unfold wrap64; omega
  have u0 : wrap64 (i0 + 1) = 1 := by unfold wrap64; omega
  have u1 : wrap64 (1 + 1) = 2 := by unfold wrap64; omega
  have u2 : wrap64 (2 + 1) = 3 := by unfold wrap64; omega
  have u3 : wrap64 (3 + 1) = 4 := by unfold wrap64; omega
  refine (l1_step (k := k + 4) k0 g0 p0 q0 u0).trans ?_
  refine (l1_step (k := k + 3) (by decide) g1 p1 q1 u1).trans ?_
  refine (l1_step (k := k + 2) (by decide) g2 p2 q2 u2).trans ?_
  refine (l1_step (k := k + 1) (by decide) g3 p3 q3 u3).trans ?_
  refine (l1_end (k := k) (by decide) hX gt).trans ?_
  rw [hw]
  exact congrArg (fun z => retconref02_schedule.l0 k b (X ++ [z]) ((t + 1 : Nat) : Int)) (byte_sum hx h0 h1 h2 h3)
theorem sched2 {b : List Int} : ∀ d j : Nat, j + d = 48 → ∀ k, d < k → retconref02_schedule.l0 k b ((w2I b j).take (16 + j)) ((16 + j : Nat) : Int) = some (w2I b 48)
  | 0, j, hj, k, hk => by
    obtain ⟨m, rfl⟩ : ∃ m, k = m + 1 := ⟨k - 1, by omega⟩
    obtain rfl : j = 48 := by omega
    unfold retconref02_schedule.l0
    rw [if_neg (by decide), List.take_of_length_le (by rw [w2I_len]; decide)]
  | d + 1, j, hj, k, hk => by
    obtain ⟨m, rfl⟩ : ∃ m, k = m + 1 := ⟨k - 1, by omega⟩
    have hl : ((w2I b j).take (16 + j)).length = 16 + j := by rw [List.length_take, w2I_len]; omega
    have hr : ∀ i : Int, 0 ≤ i → i < 16 + j → rd ((w2I b j).take (16 + j)) i = rd (w2I b j) i := fun i h0 h1 => by
      unfold rd
      rw [List.getD_eq_getElem?_getD, List.getD_eq_getElem?_getD, List.getElem?_take, if_pos (by omega)]
    have ih := sched2 (b := b) d (j + 1) (by omega) m (by omega)
    have hX : (w2I b (j + 1)).take (16 + (j + 1)) = (w2I b j).take (16 + j) ++ [nextI (rd (w2I b j) j) (rd (w2I b j) (j + 1)) (rd (w2I b j) (j + 9)) (rd (w2I b j) (j + 14))] := by
      rw [w2I, show 16 + (j + 1) = (16 + j) + 1 by omega, show j + 16 = 16 + j by omega, List.take_succ_eq_append_getElem (by rw [List.length_set, w2I_len]; omega), List.getElem_set_self, List.take_set_of_le (Nat.le_refl _)]
    rw [hX] at ih
    unfold retconref02_schedule.l0
    have q2 : wrap64 (((16 + j : Nat) : Int) - 2) = j + 14 := by rw [w64 _ (by omega) (by omega)]; omega
    have q7 : wrap64 (((16 + j : Nat) : Int) - 7) = j + 9 := by rw [w64 _ (by omega) (by omega)]; omega
    have q15 : wrap64 (((16 + j : Nat) : Int) - 15) = j + 1 := by rw [w64 _ (by omega) (by omega)]; omega
    have q16 : wrap64 (((16 + j : Nat) : Int) - 16) = j := by rw [w64 _ (by omega) (by omega)]; omega
    have q1 : wrap64 (((16 + j : Nat) : Int) + 1) = ((16 + (j + 1) : Nat) : Int) := by rw [w64 _ (by omega) (by omega)]; omega
    rw [if_pos (by omega), if_neg (by omega), q2, q7, q15, q16, q1, hl, if_pos (by omega), if_pos (by omega), hr _ (by omega) (by omega), lowQ_f]
    simp only [Option.bind_some]
    rw [if_pos (by omega), if_pos (by omega), hr _ (by omega) (by omega), if_pos (by omega), if_pos (by omega), hr _ (by omega) (by omega), lowP_f]
    simp only [Option.bind_some]
    rw [if_pos (by omega), if_pos (by omega), hr _ (by omega) (by omega), if_pos (by omega), ← ih]
    congr 3
    unfold nextI
    omega
theorem sched1 {b : List Int} (hB : Bytes b) (hb : b.length = 64) : ∀ d t : Nat, t + d = 16 → ∀ k, 6 * d + 49 ≤ k → retconref02_schedule.l0 k b ((List.range t).map (word b)) t = some (w2I b 48)
  | 0, t, ht, k, hk => by
    obtain rfl : t = 16 := by omega
    have := sched2 (b := b) 48 0 (by omega) k (by omega)
    rw [w2I] at this
    unfold w1I at this
    rw [List.take_left' (by simp)] at this
    exact this
  | d + 1, t, ht, k, hk => by
    obtain ⟨m, rfl⟩ : ∃ m, k = (m + 5) + 1 := ⟨k - 6, by omega⟩
    unfold retconref02_schedule.l0
    rw [if_pos (by omega), if_pos (by omega), sched_in hB hb _ t (by omega) (by simp; omega) m _ _ rfl rfl]
    have := sched1 hB hb d (t + 1) (by omega) m (by omega)
    rw [List.range_succ, List.map_append] at this
    exact this
theorem sched_f {b : List Int} (hB : Bytes b) (hb : b.length = 64) : retconref02_schedule.f 200 b = some (w2I b 48) := sched1 hB hb 16 0 (by omega) 200 (by omega)
end Go.Proofs.Ytncmbkjjoamfjaa.H
