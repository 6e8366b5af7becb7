import Derived.Test.YtncmbkjjoamfjaaO7
import Derived.Test.YtncmbkjjoamfjaaXa
namespace Go.Proofs.Ytncmbkjjoamfjaa.H
open Go.RowKit Go.Proofs.Ytncmbkjjoamfjaa.XH Go.Proofs.YtncmbkjjoamfjaaW.PrintWords Go.Proofs.YtncmbkjjoamfjaaW.PrintLast Go.Proofs.YtncmbkjjoamfjaaW.PrintMore Go.Proofs.YtncmbkjjoamfjaaXe Go.Proofs.YtncmbkjjoamfjaaXs
set_option linter.unusedVariables false
set_option linter.unusedSimpArgs false
attribute [local go_sem ↓] Go.wp_at_zero Go.wp_at_succ
attribute [local go_sem] valUpon
/-! '==' of byte arrays -/
theorem eqi_ints {P : Program} {w : World} {d : Nat} {e : TypeId} {k : IntKind} (hu : P.underlying e = some (.int k)) (hs : (P.info? e).map (·.size) = some 1) (x y : List Int) (hxy : x.length = y.length) : ∀ (n o : Nat), o + n ≤ x.length →
    (Op.eqItems (d + 1) e 1 (x.map (Value.int k)).toArray (y.map (Value.int k)).toArray (List.range' o n)).run P w = .ok (decide ((x.drop o).take n = (y.drop o).take n)) w
  | 0, o, _ => by simp [Op.eqItems]
  | n + 1, o, h => by
    obtain ⟨i, hi, hsi⟩ := Option.map_eq_some_iff.1 hs
    have h1 : o < x.length := by omega
    have h2 : o < y.length := by omega
    rw [List.range'_succ]
    have ha : (part e (x.map (Value.int k)).toArray (o * 1)).run P w = .ok (.int k x[o]) w := by simp [part, isAgg, run_underlying hu, h1]
    have hb : (part e (y.map (Value.int k)).toArray (o * 1)).run P w = .ok (.int k y[o]) w := by simp [part, isAgg, run_underlying hu, h2]
    have he : (Op.equalIn (d + 1) e (.int k x[o]) (.int k y[o])).run P w = .ok (x[o] == y[o]) w := by simp [Op.equalIn, run_underlying hu]
    rw [Go.Proofs.YtncmbkjjoamfjaaXa.eqi_cons ha hb he (eqi_ints hu hs x y hxy n (o + 1) (by omega))]
    congr 1
    rw [List.drop_eq_getElem_cons h1, List.drop_eq_getElem_cons h2, List.take_succ_cons, List.take_succ_cons, Bool.eq_iff_iff]
    simp only [Bool.and_eq_true, beq_iff_eq, decide_eq_true_eq, List.cons.injEq]
theorem eq_id (d : Nat) (w : World) (x y : List Int) (hx : x.length = 32) (hy : y.length = 32) : (Op.equalIn (d + 2) 29 (.agg (u8s x).toArray) (.agg (u8s y).toArray)).run Try.prog w = .ok (decide (x = y)) w := by
  refine Go.Proofs.YtncmbkjjoamfjaaXa.eqB_of Try.underlying29 (n := 32) (e := 5) (c := 1) (by kernel_rfl) (by kernel_rfl) (is := List.range' 0 32) (by decide) ?_
  have h := eqi_ints (P := Try.prog) (w := w) (d := d) (k := .u8) Try.underlying5 (by kernel_rfl) x y (by omega) 32 0 (by omega)
  rw [List.drop_zero, List.drop_zero, List.take_of_length_le (by omega), List.take_of_length_le (by omega)] at h
  exact h
theorem unpE_pack (k : Int) (b : List Int) (hk : 1 ≤ k ∧ k ≤ 9) (hn : b.length ≤ 65536) : unpE (packO k b) = 0 ∧ unpK (packO k b) = k ∧ unpB (packO k b) = b := by
  obtain ⟨h0, _, h2, h3⟩ := unpE_like k b (packO k b) hk hn rfl rfl (packO_body k b)
  rw [if_pos rfl] at h3
  exact ⟨h3, by unfold unpK; rw [if_pos h3, h0], by unfold unpB; rw [if_pos h3, h2]⟩
theorem unp_long (k : Int) (b y : List Int) (hk : 1 ≤ k ∧ k ≤ 9) (hn : b.length ≤ 65536) (h5 : y.take 5 = (packO k b).take 5) (h64 : 64 ≤ y.length) (hmod : y.length % 64 = 0) (hne : y.length ≠ (packO k b).length) : unpE y = 4 := by
  rw [packO_take5] at h5
  have r0 : rd y 0 = k % 256 := by rw [show (0 : Int) = ((0 : Nat) : Int) from rfl, rd_take y 0 5 (by omega), h5]; rfl
  have r1 : rd y 1 = (b.length : Int) / 16777216 % 256 := by rw [show (1 : Int) = ((1 : Nat) : Int) from rfl, rd_take y 1 5 (by omega), h5]; rfl
  have r2 : rd y 2 = (b.length : Int) / 65536 % 256 := by rw [show (2 : Int) = ((2 : Nat) : Int) from rfl, rd_take y 2 5 (by omega), h5]; rfl
  have r3 : rd y 3 = (b.length : Int) / 256 % 256 := by rw [show (3 : Int) = ((3 : Nat) : Int) from rfl, rd_take y 3 5 (by omega), h5]; rfl
  have r4 : rd y 4 = (b.length : Int) % 256 := by rw [show (4 : Int) = ((4 : Nat) : Int) from rfl, rd_take y 4 5 (by omega), h5]; rfl
  have e0 : rd y 0 = k := by omega
  have e1 : numO y = b.length := by unfold numO; rw [r1, r2, r3, r4]; omega
  have hL := packO_len k b hn
  have hs : secO (b.length : Int) = ((b.length : Int) + 100) / 64 := by unfold secO; rw [if_neg (by omega)]
  unfold unpE
  rw [if_neg (by omega), e0, if_neg (by omega), e1, if_neg (by omega), hs, if_pos (by omega)]
theorem unp_ok (b : List Int) (hB : Bytes b) (h : unpE b = 0) : (1 ≤ rd b 0 ∧ rd b 0 ≤ 9) ∧ (bodyO b).length ≤ 65536 ∧ packO (rd b 0) (bodyO b) = b ∧ Bytes (bodyO b) := by
  unfold unpE at h
  split at h
  · omega
  split at h
  · omega
  split at h
  · omega
  split at h
  · omega
  split at h
  · rename_i h1 h2 h3 h4 h5
    have h0 := numO_nn b hB
    have hsv : secO (numO b) = (numO b + 100) / 64 := by unfold secO; rw [if_neg (by omega)]
    refine ⟨by omega, ?_, h5, fun x hx => hB x (List.mem_of_mem_take (List.mem_of_mem_drop hx))⟩
    rw [bodyO_len b hB (by omega)]
    omega
  · omega
theorem to8 (A : Option Addr) (c : Nat) (b : List Int) (hi : Nat) (h2 : hi ≤ b.length) (hc : b.length ≤ c) (hh : Int) (eh : hh = (hi : Int)) (w : World) : (Instr.slice 22 (.slice A b.length c) none (some (.int .i64 hh)) none).run Try.prog w = .ok (.slice A hi c) w := by
  obtain ⟨i, hi1, _, hs, _⟩ := info_parts info5
  subst eh
  rw [cut_to 22 5 .i64 Try.underlying22 hi1 A b.length c hi (by omega) (by omega) hc w]
  simp only [Int.toNat_natCast]
end Go.Proofs.Ytncmbkjjoamfjaa.H
