import Derived.Test.YtncmbkjjoamfjaaK7
import Derived.Test.YtncmbkjjoamfjaaH9
namespace Go.Proofs.Ytncmbkjjoamfjaa.H
open Go.RowKit Go.Proofs.Ytncmbkjjoamfjaa.XH Go.Proofs.YtncmbkjjoamfjaaW.PrintWords Go.Proofs.YtncmbkjjoamfjaaW.PrintLast Go.Proofs.YtncmbkjjoamfjaaW.PrintMore Go.Proofs.YtncmbkjjoamfjaaXe Go.Proofs.YtncmbkjjoamfjaaXs
set_option linter.unusedVariables false
set_option linter.unusedSimpArgs false
attribute [local go_sem ↓] Go.wp_at_zero Go.wp_at_succ
attribute [local go_sem] valUpon
attribute [local go_sem ↓ high] bn29
/-! objects as sectors: what they are -/
def chkO (kind : Int) (n : Nat) : Int := if kind < 1 ∨ 9 < kind then 2 else if 65536 < n then 3 else 0
def secO (n : Int) : Int := if n < 0 ∨ 65536 < n then 0 else (n + 100) / 64
def lenB (n : Int) : List Int := [n / 16777216 % 256, n / 65536 % 256, n / 256 % 256, n % 256]
noncomputable def headO (kind : Int) (b : List Int) : List Int := (kind % 256) :: (lenB (b.length : Int) ++ sha b)
noncomputable def packO (kind : Int) (b : List Int) : List Int := headO kind b ++ (b ++ List.replicate ((secO (b.length : Int) * 64).toNat - (37 + b.length)) 0)
theorem sha_len' (M : List Int) : (sha M).length = 32 := outI_len _ _ (Nat.le_refl _)
theorem headO_len (kind : Int) (b : List Int) : (headO kind b).length = 37 := by simp [headO, lenB, sha_len']
theorem check_f (kind : Int) (b : List Int) : object_check.f 5 kind b = some (chkO kind b.length) := by
  unfold object_check.f chkO
  by_cases h1 : kind < 1
  · rw [if_pos h1, if_pos (.inl h1)]; rfl
  · rw [if_neg h1]
    by_cases h2 : 9 < kind
    · rw [if_pos (.inr h2), decide_eq_true (show kind > 9 from h2)]; rfl
    · rw [if_neg (by omega), decide_eq_false (show ¬ kind > 9 from h2)]
      unfold object_check.j0
      by_cases h3 : 65536 < b.length
      · simp [h3]; omega
      · simp [h3]; omega
theorem rcheck_f (kind : Int) (b : List Int) : retconref15_check.f 5 kind b = some (chkO kind b.length) := by
  unfold retconref15_check.f chkO
  by_cases h1 : kind < 1
  · rw [if_pos h1, if_pos (.inl h1)]; rfl
  · rw [if_neg h1]
    by_cases h2 : 9 < kind
    · rw [if_pos (.inr h2), decide_eq_true (show kind > 9 from h2)]; rfl
    · rw [if_neg (by omega), decide_eq_false (show ¬ kind > 9 from h2)]
      unfold retconref15_check.j0
      by_cases h3 : 65536 < b.length
      · simp [h3]; omega
      · simp [h3]; omega
theorem sectors_f (n : Int) : object_Sectors.f 5 n = some (secO n) := by
  unfold object_Sectors.f secO
  by_cases h1 : n < 0
  · rw [if_pos h1, if_pos (.inl h1)]; rfl
  · rw [if_neg h1]
    by_cases h2 : 65536 < n
    · rw [if_pos (.inr h2), decide_eq_true (show n > 65536 from h2)]; rfl
    · rw [if_neg (by omega), decide_eq_false (show ¬ n > 65536 from h2)]
      unfold object_Sectors.j0
      show some (wrap64 (Int.tdiv (wrap64 ((wrap64 ((wrap64 (37 + n)) + 64)) - 1)) 64)) = _
      have e : wrap64 (Int.tdiv (wrap64 ((wrap64 ((wrap64 (37 + n)) + 64)) - 1)) 64) = (n + 100) / 64 := by
        rw [wr (x := 37 + n) (by omega), wr (x := 37 + n + 64) (by omega), wr (x := 37 + n + 64 - 1) (by omega), Int.tdiv_eq_ediv_of_nonneg (by omega), wr (by omega)]
        omega
      rw [e]
theorem rsectors_f (n : Int) : retconref15_Sectors.f 5 n = some (secO n) := by
  unfold retconref15_Sectors.f secO
  by_cases h1 : n < 0
  · rw [if_pos h1, if_pos (.inl h1)]; rfl
  · rw [if_neg h1]
    by_cases h2 : 65536 < n
    · rw [if_pos (.inr h2), decide_eq_true (show n > 65536 from h2)]; rfl
    · rw [if_neg (by omega), decide_eq_false (show ¬ n > 65536 from h2)]
      unfold retconref15_Sectors.j0
      show some (wrap64 (Int.tdiv (wrap64 ((wrap64 ((wrap64 (37 + n)) + 64)) - 1)) 64)) = _
      have e : wrap64 (Int.tdiv (wrap64 ((wrap64 ((wrap64 (37 + n)) + 64)) - 1)) 64) = (n + 100) / 64 := by
        rw [wr (x := 37 + n) (by omega), wr (x := 37 + n + 64) (by omega), wr (x := 37 + n + 64 - 1) (by omega), Int.tdiv_eq_ediv_of_nonneg (by omega), wr (by omega)]
        omega
      rw [e]
theorem results_cell_tmp {P : Program} {fn : Func} {p p2 : Tmp} {ty : TypeId} (h : fn.results = #[.cell p ty, .tmp p2]) (tmps : Array Value) (w : World) {g : Nat} {t : TypeId} {cs : Array Value} {fr : Nat × Nat} {d : TypeDesc} {v : Value}
    (hp : tmps.getD p undef = .pointer (some ⟨g, 0, none⟩)) (hg : w.heap[g]? = some (.cells cs t fr)) (hu : P.underlying ty = some d) (hd : (match d with | .struct _ | .array _ _ => true | _ => false) = true) (hi : (P.info? ty).map (·.size) = some cs.size)
    (hp2 : tmps.getD p2 undef = v) : (results fn tmps).run P w = .ok (.tuple #[.agg cs, v]) w := by
  have hp' : tmps[p]?.getD undef = .pointer (some ⟨g, 0, none⟩) := by simpa using hp
  have hp2' : tmps[p2]?.getD undef = v := by simpa using hp2
  simp [results, h, hp', hp2', asAddr, run_loadVar_row w g t ty cs fr d hg hu hd hi]
end Go.Proofs.Ytncmbkjjoamfjaa.H
