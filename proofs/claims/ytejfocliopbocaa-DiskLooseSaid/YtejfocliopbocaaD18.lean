import Derived.Test.YtejfocliopbocaaD17
namespace Go.Proofs.Ytejfocliopbocaa.D
open Go.RowKit Go.Proofs.Ytejfocliopbocaa.XD Go.Proofs.YtejfocliopbocaaW.PrintWords Go.Proofs.YtejfocliopbocaaW.PrintLast Go.Proofs.YtejfocliopbocaaW.PrintMore Go.Proofs.YtejfocliopbocaaXe Go.Proofs.YtejfocliopbocaaXs
set_option linter.unusedVariables false
set_option linter.unusedSimpArgs false
/-! plain: what a crash leaves of sectors of one byte -/
def firmL (l : List Int) : List (Int × List Int) := l.zipIdx.map fun p => (((p.2 % 4 : Nat) : Int), rp p.1)
def wasF (l : List Int) : List Int := l.zipIdx.foldl (fun acc p => acc.set (p.2 % 4) p.1) [0, 0, 0, 0]
def softL (l : List Int) : List (Int × List Int) := l.map fun c => (c % 4, rp c)
theorem firmL_snoc (l : List Int) (c : Int) : firmL (l ++ [c]) = firmL l ++ [(((l.length % 4 : Nat) : Int), rp c)] := by simp [firmL, List.zipIdx_append]
theorem wasF_snoc (l : List Int) (c : Int) : wasF (l ++ [c]) = (wasF l).set (l.length % 4) c := by simp [wasF, List.zipIdx_append, List.foldl_append]
theorem softL_snoc (l : List Int) (c : Int) : softL (l ++ [c]) = softL l ++ [(c % 4, rp c)] := by simp [softL]
theorem wasF_len (l : List Int) : (wasF l).length = 4 := by
  induction l using List.reverseRecOn' with
  | nil => rfl
  | snoc l c ih => rw [wasF_snoc, List.length_set, ih]
theorem putF_firm (l : List Int) : ∀ n : Nat, n < 4 → putF (fun _ => s64) (firmL l) (n : Int) = rp ((wasF l).getD n 0) := by
  induction l using List.reverseRecOn' with
  | nil =>
    intro n hn
    match n, hn with
    | 0, _ => rfl
    | 1, _ => rfl
    | 2, _ => rfl
    | 3, _ => rfl
  | snoc l c ih =>
    intro n hn
    rw [firmL_snoc, putF_snoc, wasF_snoc]
    show (if (((l.length % 4 : Nat) : Int)) = (n : Int) then rp c else putF (fun _ => s64) (firmL l) (n : Int)) = _
    by_cases h : l.length % 4 = n
    · rw [if_pos (by rw [h])]
      have h2 := wasF_len l
      rw [h, List.getD_eq_getElem?_getD, List.getElem?_set_self (by omega)]; rfl
    · rw [if_neg (by omega), ih n hn, List.getD_eq_getElem?_getD, List.getD_eq_getElem?_getD, List.getElem?_set_ne h]
section
variable (w : Int → Int) (soft : List Int)
def okB (n c : Int) : Prop := c = w n ∨ (c ∈ soft ∧ c % 4 = n)
def Unif (n : Int) (b : List Int) : Prop := ∃ c, okB w soft n c ∧ b = rp c
def Good (n : Int) (b : List Int) : Prop := ∃ c x t, t ≤ 63 ∧ okB w soft n c ∧ okB w soft n x ∧ b = (rp c).take t ++ (rp x).drop t
end
section
variable {w : Int → Int} {soft : List Int}
theorem Unif.good {n : Int} {b : List Int} (h : Unif w soft n b) : Good w soft n b := by
  obtain ⟨c, h1, rfl⟩ := h
  exact ⟨c, c, 0, by decide, h1, h1, by rw [List.take_zero, List.drop_zero, List.nil_append]⟩
def Phase (m : Int) (f : Int → List Int) : Prop := ∀ n, 0 ≤ n → n < 4 → Good w soft n (f n) ∧ (n ≠ m → Unif w soft n (f n))
theorem crash0 (keep : List Bool) (m : Int) : ∀ (l : List Int) (i : Nat) (f : Int → List Int), (∀ c ∈ l, c ∈ soft) → @Phase w soft m f → @Phase w soft m (crashG keep (softL l) i 0 f)
  | [], i, f, _, h => h
  | c :: l, i, f, hs, h => by
    have h1 : c ∈ soft := hs c List.mem_cons_self
    have h2 : ∀ q ∈ l, q ∈ soft := fun q hq => hs q (List.mem_cons_of_mem _ hq)
    show @Phase w soft m (crashG keep ((c % 4, rp c) :: softL l) i 0 f)
    unfold crashG
    split
    · refine crash0 keep m l _ _ h2 fun n h3 h4 => ?_
      unfold put1
      split
      · rename_i hn
        have : Unif w soft n (rp c) := ⟨c, .inr ⟨h1, hn⟩, rfl⟩
        exact ⟨this.good, fun _ => this⟩
      · exact h n h3 h4
    · refine crash0 keep m l _ _ h2 fun n h3 h4 => ?_
      have : put1 f (c % 4) ((rp c).take (Int.toNat 0) ++ (f (c % 4)).drop (Int.toNat 0)) n = f n := by
        unfold put1
        split
        · rename_i hn; rw [← hn]; simp
        · rfl
      rw [this]
      exact h n h3 h4
theorem crash1 (keep : List Bool) (t : Int) (ht : 0 ≤ t ∧ t < 64) : ∀ (l : List Int) (i : Nat) (f : Int → List Int), (∀ c ∈ l, c ∈ soft) → (∀ n, 0 ≤ n → n < 4 → Unif w soft n (f n)) → ∃ m, @Phase w soft m (crashG keep (softL l) i t f)
  | [], i, f, _, h => ⟨0, fun n h1 h2 => ⟨(h n h1 h2).good, fun _ => h n h1 h2⟩⟩
  | c :: l, i, f, hs, h => by
    have h1 : c ∈ soft := hs c List.mem_cons_self
    have h2 : ∀ q ∈ l, q ∈ soft := fun q hq => hs q (List.mem_cons_of_mem _ hq)
    show ∃ m, @Phase w soft m (crashG keep ((c % 4, rp c) :: softL l) i t f)
    unfold crashG
    split
    · refine crash1 keep t ht l _ _ h2 fun n h3 h4 => ?_
      unfold put1
      split
      · rename_i hn
        exact ⟨c, .inr ⟨h1, hn⟩, rfl⟩
      · exact h n h3 h4
    · refine ⟨c % 4, crash0 keep (c % 4) l _ _ h2 fun n h3 h4 => ?_⟩
      unfold put1
      split
      · rename_i hn
        obtain ⟨x, hx, hfx⟩ := h n h3 h4
        refine ⟨⟨c, x, t.toNat, by omega, .inr ⟨h1, hn⟩, hx, ?_⟩, fun hne => absurd hn.symm hne⟩
        show (rp c).take t.toNat ++ (f (c % 4)).drop t.toNat = _
        have hn' : c % 4 = n := hn
        rw [hn', hfx]
      · exact ⟨(h n h3 h4).good, fun _ => h n h3 h4⟩
theorem good_ends {n : Int} {b : List Int} (h : Good w soft n b) : b.length = 64 ∧ okB w soft n (b.getD 0 0) ∧ okB w soft n (b.getD 63 0) := by
  obtain ⟨c, x, t, ht, hc, hx, rfl⟩ := h
  refine ⟨by simp; omega, ?_, ?_⟩
  · by_cases h0 : t = 0
    · subst h0
      rw [List.take_zero, List.drop_zero, List.nil_append]
      exact hx
    · rw [List.getD_eq_getElem?_getD, List.getElem?_append_left (by simp; omega), List.getElem?_take, if_pos (by omega)]
      simpa using hc
  · rw [List.getD_eq_getElem?_getD, List.getElem?_append_right (by simp; omega)]
    have : (63 - ((rp c).take t).length) = 63 - t := by simp; omega
    rw [this, List.getElem?_drop, show t + (63 - t) = 63 by omega]
    simpa using hx
theorem unif_last {n : Int} {b : List Int} (h : Unif w soft n b) : b = rp (b.getD 63 0) := by
  obtain ⟨c, _, rfl⟩ := h
  rfl
theorem good_byte {n : Int} {b : List Int} (h : Good w soft n b) (hw : ∀ n, 0 ≤ w n ∧ w n < 256) (hs : ∀ c ∈ soft, 0 ≤ c ∧ c < 256) : 0 ≤ b.getD 63 0 ∧ b.getD 63 0 < 256 ∧ 0 ≤ b.getD 0 0 ∧ b.getD 0 0 < 256 := by
  have h1 : ∀ c, okB w soft n c → 0 ≤ c ∧ c < 256 := fun c hc => by
    rcases hc with rfl | ⟨h, _⟩
    · exact hw n
    · exact hs c h
  obtain ⟨_, h2, h3⟩ := good_ends h
  have h4 := h1 _ h2
  have h5 := h1 _ h3
  omega
end
theorem among_l0 (c n : Int) (soft : List Int) (hl : soft.length ≤ 1000) (hc : 0 ≤ c ∧ c < 256) (h4 : c % 4 = n) : ∀ (d i : Nat), i + d = soft.length → c ∈ soft.drop i → ∃ k, retconlaw12_among.l0 k c soft n (i : Int) = some true := by
  intro d
  induction d with
  | zero => intro i hi hm; rw [List.drop_eq_nil_of_le (by omega)] at hm; cases hm
  | succ d ih =>
    intro i hi hm
    have hlt : i < soft.length := by omega
    have hrd : rd soft (i : Int) = soft[i] := by unfold rd; rw [Int.toNat_natCast, List.getD_eq_getElem?_getD, List.getElem?_eq_getElem hlt]; rfl
    have hw : wrap64 c = c := by unfold wrap64; omega
    have ht : Int.tmod c 4 = c % 4 := Int.tmod_eq_emod_of_nonneg hc.1
    by_cases he : soft[i] = c
    · refine ⟨2, ?_⟩
      unfold retconlaw12_among.l0
      rw [if_pos (by omega), if_pos (by omega), hrd, if_pos he, hw, ht, h4]
      simp [retconlaw12_among.j1]
    · rw [List.drop_eq_getElem_cons hlt] at hm
      have hm2 : c ∈ soft.drop (i + 1) := by
        rcases List.mem_cons.1 hm with h | h
        · exact absurd h.symm he
        · exact h
      obtain ⟨k, hk⟩ := ih (i + 1) (by omega) hm2
      refine ⟨k + 2, ?_⟩
      unfold retconlaw12_among.l0
      rw [if_pos (by omega), if_pos (by omega), hrd, if_neg he]
      unfold retconlaw12_among.j1
      rw [if_neg (by decide), show wrap64 ((i : Int) + 1) = ((i + 1 : Nat) : Int) from by unfold wrap64; omega]
      exact hk
theorem among_f (w : Int → Int) (c n : Int) (soft : List Int) (hl : soft.length ≤ 1000) (hc : 0 ≤ c ∧ c < 256) (h : okB w soft n c) : ∃ k, retconlaw12_among.f k c (w n) soft n = some true := by
  unfold retconlaw12_among.f
  by_cases he : c = w n
  · exact ⟨0, by rw [if_pos he]⟩
  · rcases h with h | ⟨h1, h2⟩
    · exact absurd h he
    · obtain ⟨k, hk⟩ := among_l0 c n soft hl hc h2 soft.length 0 (by omega) (by simpa using h1)
      exact ⟨k, by rw [if_neg he]; exact hk⟩
end Go.Proofs.Ytejfocliopbocaa.D
