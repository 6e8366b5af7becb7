import Derived.Test.YtncmbkjjoamfjaaO3
namespace Go.Proofs.Ytncmbkjjoamfjaa.H
open Go.RowKit Go.Proofs.Ytncmbkjjoamfjaa.XH Go.Proofs.YtncmbkjjoamfjaaW.PrintWords Go.Proofs.YtncmbkjjoamfjaaW.PrintLast Go.Proofs.YtncmbkjjoamfjaaW.PrintMore Go.Proofs.YtncmbkjjoamfjaaXe Go.Proofs.YtncmbkjjoamfjaaXs
set_option linter.unusedVariables false
set_option linter.unusedSimpArgs false
attribute [local go_sem ↓] Go.wp_at_zero Go.wp_at_succ
attribute [local go_sem] valUpon
theorem mid8 (A : Option Addr) (c : Nat) (b : List Int) (lo hi : Nat) (h : lo ≤ hi) (h2 : hi ≤ b.length) (hc : b.length ≤ c) (hl hh : Int) (el : hl = (lo : Int)) (eh : hh = (hi : Int)) : ∃ A' m, (b.take hi).drop lo = m ∧ m.length = hi - lo ∧ m.length ≤ c - lo ∧ (∀ w : World, (Instr.slice 22 (.slice A b.length c) (some (.int .i64 hl)) (some (.int .i64 hh)) none).run Try.prog w = .ok (.slice A' m.length (c - lo)) w) ∧ (∀ w : World, Kd.C (Kd.int .u8) w A b.length b → Kd.C (Kd.int .u8) w A' m.length m) := by
  obtain ⟨i, hi1, _, hs, _⟩ := info_parts info5
  subst el eh
  have hm : ((b.take hi).drop lo).length = hi - lo := by rw [List.length_drop, List.length_take]; omega
  refine ⟨if c = lo then A else A.map (·.add (lo * 1)), _, rfl, hm, by rw [hm]; omega, fun w => ?_, fun w hC => Kd.C_mid hC h h2 hc⟩
  rw [cut_mid 22 5 .i64 .i64 Try.underlying22 hi1 1 hs A b.length c lo hi (by omega) (by omega) (by omega) hc w, hm]
  simp only [Int.toNat_natCast]
theorem from8 (A : Option Addr) (c : Nat) (b : List Int) (lo : Nat) (h : lo ≤ b.length) (hc : b.length ≤ c) (hl : Int) (el : hl = (lo : Int)) : ∃ A' m, b.drop lo = m ∧ m.length = b.length - lo ∧ m.length ≤ c - lo ∧ (∀ w : World, (Instr.slice 22 (.slice A b.length c) (some (.int .i64 hl)) none none).run Try.prog w = .ok (.slice A' m.length (c - lo)) w) ∧ (∀ w : World, Kd.C (Kd.int .u8) w A b.length b → Kd.C (Kd.int .u8) w A' m.length m) := by
  obtain ⟨i, hi1, _, hs, _⟩ := info_parts info5
  subst el
  have hm : (b.drop lo).length = b.length - lo := List.length_drop
  refine ⟨if c = lo then A else A.map (·.add (lo * 1)), _, rfl, hm, by rw [hm]; omega, fun w => ?_, fun w hC => Kd.C_drop hC h hc⟩
  rw [cut_from 22 5 .i64 Try.underlying22 hi1 1 hs A b.length c lo (by omega) (by omega) w, hm]
  simp only [Int.toNat_natCast]
/-! which object sectors are -/
def numO (b : List Int) : Int := rd b 1 * 16777216 + rd b 2 * 65536 + rd b 3 * 256 + rd b 4
def bodyO (b : List Int) : List Int := (b.take (37 + (numO b).toNat)).drop 37
noncomputable def unpE (b : List Int) : Int :=
  if b.length < 64 ∨ b.length % 64 ≠ 0 then 4 else if rd b 0 < 1 ∨ 9 < rd b 0 then 2 else if 65536 < numO b then 3 else if secO (numO b) * 64 ≠ (b.length : Int) then 4 else if packO (rd b 0) (bodyO b) = b then 0 else 11
noncomputable def unpK (b : List Int) : Int := if unpE b = 0 then rd b 0 else 0
noncomputable def unpB (b : List Int) : List Int := if unpE b = 0 then bodyO b else []
theorem rdB {l : List Int} (h : Bytes l) (q : Int) : 0 ≤ rd l q ∧ rd l q < 256 := by
  unfold Go.Proofs.YtncmbkjjoamfjaaW.PrintWords.rd
  by_cases hi : q.toNat < l.length
  · rw [List.getD_eq_getElem?_getD, List.getElem?_eq_getElem hi]; exact h _ (List.getElem_mem hi)
  · rw [List.getD_eq_getElem?_getD, List.getElem?_eq_none (by omega)]; decide
theorem take5 (b : List Int) (h : 5 ≤ b.length) : b.take 5 = [rd b 0, rd b 1, rd b 2, rd b 3, rd b 4] := by
  match b, h with
  | x0 :: x1 :: x2 :: x3 :: x4 :: r, _ => rfl
theorem bodyO_len (b : List Int) (hB : Bytes b) (h : 37 + (numO b).toNat ≤ b.length) : (bodyO b).length = (numO b).toNat := by unfold bodyO; rw [List.length_drop, List.length_take]; omega
theorem numO_nn (b : List Int) (hB : Bytes b) : 0 ≤ numO b := by
  have h1 := rdB hB 1; have h2 := rdB hB 2; have h3 := rdB hB 3; have h4 := rdB hB 4
  unfold numO; omega
/-- sectors are their object just if the ID is its bytes', and noughts stand behind -/
theorem pieces (b : List Int) (hB : Bytes b) (hk : 1 ≤ rd b 0 ∧ rd b 0 ≤ 9) (hn : numO b ≤ 65536) (hs : secO (numO b) * 64 = (b.length : Int)) :
    packO (rd b 0) (bodyO b) = b ↔ ((b.take 37).drop 5 = sha (bodyO b) ∧ b.drop (37 + (numO b).toNat) = List.replicate (b.length - 37 - (numO b).toNat) 0) := by
  have h0 := numO_nn b hB
  have hsv : secO (numO b) = (numO b + 100) / 64 := by unfold secO; rw [if_neg (by omega)]
  have hle : 37 + (numO b).toNat ≤ b.length := by omega
  have hbl := bodyO_len b hB hle
  have h1 := rdB hB 1; have h2 := rdB hB 2; have h3 := rdB hB 3; have h4 := rdB hB 4
  have hcut : b = [rd b 0, rd b 1, rd b 2, rd b 3, rd b 4] ++ ((b.take 37).drop 5 ++ (bodyO b ++ b.drop (37 + (numO b).toNat))) := by
    rw [← take5 b (by omega)]
    conv => lhs; rw [← List.take_append_drop (37 + (numO b).toNat) b, ← List.take_append_drop 37 (b.take (37 + (numO b).toNat))]
    rw [List.take_take, Nat.min_eq_left (by omega)]
    conv => lhs; rw [← List.take_append_drop 5 (b.take 37)]
    rw [List.take_take, Nat.min_eq_left (by omega)]
    simp only [List.append_assoc]
    rfl
  have hpk : packO (rd b 0) (bodyO b) = [rd b 0, rd b 1, rd b 2, rd b 3, rd b 4] ++ (sha (bodyO b) ++ (bodyO b ++ List.replicate (b.length - 37 - (numO b).toNat) 0)) := by
    have e : ((bodyO b).length : Int) = numO b := by rw [hbl]; omega
    have e2 : headO (rd b 0) (bodyO b) = [rd b 0, rd b 1, rd b 2, rd b 3, rd b 4] ++ sha (bodyO b) := by
      have k0 : rd b 0 % 256 = rd b 0 := by omega
      have k1 : numO b / 16777216 % 256 = rd b 1 := by unfold numO; omega
      have k2 : numO b / 65536 % 256 = rd b 2 := by unfold numO; omega
      have k3 : numO b / 256 % 256 = rd b 3 := by unfold numO; omega
      have k4 : numO b % 256 = rd b 4 := by unfold numO; omega
      unfold headO lenB
      rw [e, k0, k1, k2, k3, k4]
      rfl
    unfold packO
    rw [e2, e, hs, List.append_assoc, hbl, show ((b.length : Int)).toNat - (37 + (numO b).toNat) = b.length - 37 - (numO b).toNat by omega]
  have hl37 : ((b.take 37).drop 5).length = 32 := by rw [List.length_drop, List.length_take]; omega
  constructor
  · intro h
    have h5 := hpk.symm.trans (h.trans hcut)
    have h6 := List.append_cancel_left h5
    have h7 := List.append_inj h6 (by rw [sha_len', hl37])
    exact ⟨h7.1.symm, (List.append_cancel_left h7.2).symm⟩
  · rintro ⟨h5, h6⟩
    rw [hpk, ← h5, ← h6]
    exact hcut.symm
end Go.Proofs.Ytncmbkjjoamfjaa.H
