import Derived.Test.YtgflghnbpbiakaaV12
import Derived.Test.YtgflghnbpbiakaaV10
import Derived.Test.YtgflghnbpbiakaaV05
import Derived.Test.YtgflghnbpbiakaaV02
namespace Go.Proofs.Ytgflghnbpbiakaa.Su
open Go.Proofs.Ytgflghnbpbiakaa.H hiding C_ints cellL cellN ev_copy ev_store_mid frozC i64k run_cut_all run_cut_arr run_cut_to setL set_self
open Go.RowKit Go.Proofs.Ytgflghnbpbiakaa.XH Go.Proofs.YtgflghnbpbiakaaW.PrintWords Go.Proofs.YtgflghnbpbiakaaW.PrintLast Go.Proofs.YtgflghnbpbiakaaW.PrintMore Go.Proofs.YtgflghnbpbiakaaXe Go.Proofs.YtgflghnbpbiakaaXs
set_option linter.unusedVariables false
set_option linter.unusedSimpArgs false
attribute [local go_sem ↓] Go.wp_at_zero Go.wp_at_succ
attribute [local go_sem] valUpon
open Go.Proofs.Ytgflghnbpbiakaa.D hiding c_len c_new c_write
structure Sim (S : DS) (R : RS) : Prop where
  out : S.out = R.out
  many : S.many = R.many
  steps : S.steps = R.count
  fuse : S.fuse = if R.has then R.left else -1
  left : R.has = true → 0 ≤ R.left ∧ R.left ≤ 9223372036854775807
  l : S.l = nbP R.soft
  at' : S.at' = firmB R.firm
  uniq : uniqP R.firm
theorem sec_from (j : Int) : ∀ (l : List Pt) (f g : Int → List Int) (a : Option Pt), (f j = match a with | some p => p.b | none => g j) → putF f (nbP l) j = match lastF j a l with | some p => p.b | none => g j
  | [], f, g, a, h => h
  | x :: l, f, g, a, h => by
    show putF (fun k => if x.n = k then x.b else f k) (nbP l) j = match lastF j (if x.n = j then some x else a) l with | some p => p.b | none => g j
    refine sec_from j l _ g _ ?_
    by_cases e : x.n = j
    · rw [if_pos e, if_pos e]
    · rw [if_neg e, if_neg e]; exact h
theorem sim_sec {S : DS} {R : RS} (h : Sim S R) (j : Int) : sec S j = nowB R j := by
  unfold sec nowB
  rw [h.l, h.at']
  exact sec_from j R.soft (firmB R.firm) (firmB R.firm) none rfl
theorem sim_ready {S : DS} {R : RS} (h : Sim S R) (n : Int) : S.readyE n = R.readyE n := by
  unfold DS.readyE readyD RS.readyE
  rw [h.out, h.many]
theorem sim_fuse0 {S : DS} {R : RS} (h : Sim S R) : S.fuse = 0 ↔ stepB R = false := by
  have h2 := h.left
  rw [h.fuse]
  unfold stepB
  cases hh : R.has with
  | false => simp
  | true => simp
theorem sim_step {S : DS} {R : RS} (h : Sim S R) (hb : stepB R = true) : Sim S.step (stepR R) := by
  have h0 : ¬ S.fuse = 0 := fun e => by rw [(sim_fuse0 h).1 e] at hb; cases hb
  have hl := h.left
  have hf := h.fuse
  obtain ⟨f1, f2, f3⟩ := stepR_same R
  have hn : ¬ (R.has = true ∧ R.left = 0) := by
    rintro ⟨e1, e2⟩
    rw [e1, e2] at hf
    exact h0 hf
  have hs : stepR R = { R with left := if R.has then wrap64 (R.left - 1) else R.left, count := wrap64 (R.count + 1) } := by unfold stepR; rw [if_neg hn]
  rw [hs]
  refine ⟨h.out, h.many, ?_, ?_, ?_, h.l, h.at', h.uniq⟩
  · show wrap64 (S.steps + 1) = wrap64 (R.count + 1)
    rw [h.steps]
  · show burn S.fuse = if R.has then (if R.has then wrap64 (R.left - 1) else R.left) else -1
    rw [hf]
    cases hh : R.has with
    | false => rfl
    | true =>
      have h1 := hl hh
      have h2 : ¬ R.left = 0 := fun e => hn ⟨hh, e⟩
      show burn R.left = wrap64 (R.left - 1)
      unfold burn
      rw [if_pos (by omega)]
  · intro hh
    have h1 := hl hh
    have h2 : ¬ R.left = 0 := fun e => hn ⟨hh, e⟩
    show 0 ≤ (if R.has then wrap64 (R.left - 1) else R.left) ∧ (if R.has then wrap64 (R.left - 1) else R.left) ≤ 9223372036854775807
    have h3 : R.has = true := hh
    rw [if_pos h3]
    unfold wrap64
    omega
theorem sim_outd {S : DS} {R : RS} (h : Sim S R) : Sim { S with out := true } { R with out := true } := ⟨rfl, h.many, h.steps, h.fuse, h.left, h.l, h.at', h.uniq⟩
theorem stepR_false {R : RS} (h : stepB R = false) : stepR R = { R with out := true } := by
  unfold stepB at h
  unfold stepR
  rw [if_pos]
  simpa using h
theorem sim_write {S : DS} {R : RS} (h : Sim S R) (n : Int) (b : List Int) : writeE S n b = writeRE R n b ∧ ∀ v, Sim (writeS S n b) (writeR R n b v) := by
  have hr := sim_ready h n
  have hf := sim_fuse0 h
  constructor
  · unfold writeE writeRE
    rw [hr]
    split
    · rfl
    · split
      · rfl
      · by_cases e : S.fuse = 0
        · rw [if_pos e, if_pos (hf.1 e)]
        · rw [if_neg e, if_neg (fun e2 => e (hf.2 e2))]
  · intro v
    unfold writeS writeR
    rw [hr]
    split
    · exact h
    · split
      · exact h
      · by_cases e : S.fuse = 0
        · rw [if_pos e, if_pos (hf.1 e), stepR_false (hf.1 e)]
          exact sim_outd h
        · have hb : stepB R = true := by
            cases hq : stepB R with
            | true => rfl
            | false => exact absurd (hf.2 hq) e
          rw [if_neg e, if_neg (by rw [hb]; decide)]
          have h2 := sim_step h hb
          refine ⟨h2.out, h2.many, h2.steps, h2.fuse, h2.left, ?_, h2.at', h2.uniq⟩
          show S.l ++ [(n, b)] = nbP ((stepR R).soft ++ [⟨n, v, b⟩])
          rw [(stepR_same R).2.1, h.l]
          simp [nbP]
theorem firmB_fold : ∀ (l F : List Pt), uniqP F → firmB (l.foldl putP F) = putF (firmB F) (nbP l) ∧ uniqP (l.foldl putP F)
  | [], F, h => ⟨rfl, h⟩
  | p :: l, F, h => by
    obtain ⟨h1, h2⟩ := firmB_fold l (putP F p) (uniq_put p h)
    refine ⟨?_, h2⟩
    rw [List.foldl_cons, h1, firmB_put p h]
    rfl
theorem sim_flush {S : DS} {R : RS} (h : Sim S R) : flushE S = flushRE R ∧ Sim (flushS S) (flushR R) := by
  have hf := sim_fuse0 h
  constructor
  · unfold flushE flushRE
    rw [h.out]
    by_cases e : R.out = true ∨ S.fuse = 0
    · rw [if_pos e, if_pos (e.imp id hf.1)]
    · rw [if_neg e, if_neg (fun e2 => e (e2.imp id hf.2))]
  · unfold flushS flushR
    by_cases e : R.out = true
    · rw [if_pos (.inl (h.out.trans e)), if_pos e]
      have h2 : ({ S with out := true } : DS) = S := by
        have := h.out.trans e
        cases S
        simp_all
      rw [h2]
      exact h
    · by_cases e2 : S.fuse = 0
      · rw [if_pos (.inr e2), if_neg e, if_pos (hf.1 e2), stepR_false (hf.1 e2)]
        exact sim_outd h
      · have hb : stepB R = true := by
          cases hq : stepB R with
          | true => rfl
          | false => exact absurd (hf.2 hq) e2
        rw [if_neg (by rw [h.out]; rintro (h1 | h1); exact e h1; exact e2 h1), if_neg e, if_neg (by rw [hb]; decide)]
        have h2 := sim_step h hb
        obtain ⟨f1, f2, f3⟩ := stepR_same R
        have h3 := firmB_fold (stepR R).soft (stepR R).firm (by rw [f1]; exact h.uniq)
        refine ⟨h2.out, h2.many, h2.steps, h2.fuse, h2.left, rfl, ?_, h3.2⟩
        show putF S.at' S.l = firmB ((stepR R).soft.foldl putP (stepR R).firm)
        rw [h3.1, f1, f2, h.l, h.at']
theorem sim_fuse {S : DS} {R : RS} (h : Sim S R) (n : Int) (hn : n ≤ 9223372036854775807) : fuseE n = fuseRE n ∧ Sim (fuseS S n) (fuseR R n) := by
  refine ⟨rfl, ?_⟩
  unfold fuseS fuseR
  split
  · exact h
  · exact ⟨h.out, h.many, h.steps, rfl, fun _ => ⟨by show 0 ≤ n; omega, hn⟩, h.l, h.at', h.uniq⟩
theorem sim_crash {S : DS} {R : RS} (h : Sim S R) (keep : List Bool) (torn : Int) (ht : ¬ (torn < 0 ∨ 64 ≤ torn)) (F : List Pt) (hu : uniqP F) (hF : firmB F = crashG keep (nbP R.soft) 0 torn (firmB R.firm)) : Sim (crashS S keep torn) { R with firm := F, soft := [], has := false, left := 0, out := false } := by
  unfold crashS
  rw [if_neg ht]
  refine ⟨rfl, h.many, h.steps, rfl, fun e => absurd (show false = true from e) (by decide), rfl, ?_, hu⟩
  show crashG keep S.l 0 torn S.at' = firmB F
  rw [hF, h.l, h.at']
theorem sim_new (n : Int) : Sim (newS n) (newR n) := ⟨rfl, rfl, rfl, rfl, fun e => absurd (show false = true from e) (by decide), rfl, rfl, List.nodup_nil⟩
theorem okD_write {S : DS} (h : okD S) (hl : S.l.length ≤ 900) (n : Int) (b : List Int) (hB : Bytes b) : okD (writeS S n b) ∧ (writeS S n b).l.length ≤ S.l.length + 1 := by
  unfold writeS
  split
  · exact ⟨h, by omega⟩
  · split
    · exact ⟨h, by omega⟩
    · rename_i h64
      split
      · exact ⟨h, by show S.l.length ≤ S.l.length + 1; omega⟩
      · refine ⟨⟨h.1, fun p hp => ?_, ?_⟩, ?_⟩
        · rcases List.mem_append.1 hp with hp | hp
          · exact h.2.1 p hp
          · rw [List.mem_singleton.1 hp]; exact ⟨by simpa using h64, hB⟩
        · show (S.l ++ [(n, b)]).length ≤ 1000
          rw [List.length_append]; simp; omega
        · show (S.l ++ [(n, b)]).length ≤ S.l.length + 1
          rw [List.length_append]; simp
theorem okD_flush {S : DS} (h : okD S) : okD (flushS S) ∧ (flushS S).l.length ≤ S.l.length := by
  unfold flushS
  split
  · exact ⟨h, Nat.le_refl _⟩
  · exact ⟨⟨fun k => sec_ok h k, fun p (hp : p ∈ ([] : List (Int × List Int))) => by simp at hp, Nat.zero_le _⟩, Nat.zero_le _⟩
theorem okD_fuse {S : DS} (h : okD S) (n : Int) : okD (fuseS S n) ∧ (fuseS S n).l.length ≤ S.l.length := by
  unfold fuseS
  split
  · exact ⟨h, Nat.le_refl _⟩
  · exact ⟨h, Nat.le_refl _⟩
theorem crashG_ok (keep : List Bool) : ∀ (l : List (Int × List Int)) (i : Nat) (t : Int) (f : Int → List Int), 0 ≤ t ∧ t < 64 → (∀ p ∈ l, p.2.length = 64 ∧ Bytes p.2) → (∀ k, (f k).length = 64 ∧ Bytes (f k)) → ∀ k, (crashG keep l i t f k).length = 64 ∧ Bytes (crashG keep l i t f k)
  | [], i, t, f, _, _, h => h
  | p :: l, i, t, f, ht, hl, h => by
    have hp := hl p List.mem_cons_self
    have hl' : ∀ p ∈ l, p.2.length = 64 ∧ Bytes p.2 := fun q hq => hl q (List.mem_cons_of_mem _ hq)
    rw [crashG]
    split
    · refine crashG_ok keep l _ t _ ht hl' fun k => ?_
      unfold put1
      split
      · exact hp
      · exact h k
    · refine crashG_ok keep l _ 0 _ ⟨by decide, by decide⟩ hl' fun k => ?_
      unfold put1
      split
      · refine ⟨torn_len hp.1 (h _).1 ht.1 ht.2, fun x hx => ?_⟩
        rcases List.mem_append.1 hx with h1 | h1
        · exact hp.2 x (List.mem_of_mem_take h1)
        · exact (h _).2 x (List.mem_of_mem_drop h1)
      · exact h k
theorem okD_crash {S : DS} (h : okD S) (keep : List Bool) (t : Int) : okD (crashS S keep t) ∧ (crashS S keep t).l.length ≤ S.l.length := by
  unfold crashS
  split
  · exact ⟨h, Nat.le_refl _⟩
  · rename_i ht
    exact ⟨⟨crashG_ok keep S.l 0 t S.at' (by omega) h.2.1 h.1, fun p (hp : p ∈ ([] : List (Int × List Int))) => by simp at hp, Nat.zero_le _⟩, Nat.zero_le _⟩
theorem okD_new (n : Int) : okD (newS n) := ⟨fun k => ⟨rfl, s64'_b⟩, fun p hp => by simp [newS] at hp, by show ([] : List (Int × List Int)).length ≤ 1000; decide⟩
theorem firm_len_write (R : RS) (n : Int) (b : List Int) (v : Value) : (writeR R n b v).firm = R.firm ∧ (writeR R n b v).soft.length ≤ R.soft.length + 1 := by
  obtain ⟨f1, f2, f3⟩ := stepR_same R
  unfold writeR
  split
  · exact ⟨rfl, by omega⟩
  · split
    · exact ⟨rfl, by omega⟩
    · split
      · exact ⟨f1, by rw [f2]; omega⟩
      · exact ⟨f1, by show ((stepR R).soft ++ [_]).length ≤ _; rw [f2, List.length_append]; simp⟩
theorem firm_len_flush (R : RS) : (flushR R).firm.length ≤ R.firm.length + R.soft.length ∧ (flushR R).soft.length ≤ R.soft.length := by
  obtain ⟨f1, f2, f3⟩ := stepR_same R
  unfold flushR
  split
  · exact ⟨by omega, Nat.le_refl _⟩
  · split
    · rw [f1, f2]; exact ⟨by omega, Nat.le_refl _⟩
    · have h1 := foldP_len (stepR R).soft (stepR R).firm
      rw [f1, f2] at h1
      exact ⟨by show ((stepR R).soft.foldl putP (stepR R).firm).length ≤ _; rw [f1, f2]; exact h1, Nat.zero_le _⟩
end Go.Proofs.Ytgflghnbpbiakaa.Su
namespace Go.Proofs.Ytgflghnbpbiakaa.Su
open Go.Proofs.Ytgflghnbpbiakaa.H hiding C_ints cellL cellN ev_copy ev_store_mid frozC i64k run_cut_all run_cut_arr run_cut_to setL set_self
open Go.RowKit Go.Proofs.Ytgflghnbpbiakaa.XH Go.Proofs.YtgflghnbpbiakaaW.PrintWords Go.Proofs.YtgflghnbpbiakaaW.PrintLast Go.Proofs.YtgflghnbpbiakaaW.PrintMore Go.Proofs.YtgflghnbpbiakaaXe Go.Proofs.YtgflghnbpbiakaaXs
set_option linter.unusedVariables false
set_option linter.unusedSimpArgs false
attribute [local go_sem ↓] Go.wp_at_zero Go.wp_at_succ
attribute [local go_sem] valUpon
open Go.Proofs.Ytgflghnbpbiakaa.D hiding c_len c_new c_write
attribute [local go_sem ↓ high] bn23 bn25
attribute [local go_sem high] BN25.z
def rslotsE (R : RS) : Int := if R.many < 2 then 8 else if R.out then 10 else 0
theorem blank_l0 (l : List Int) (hm : l.length ≤ 1000) : ∀ (d j : Nat), j + d = l.length → (∀ k, k < j → rd l (k : Int) = 0) → retconref13_blank.l0 (d + 1) l (j : Int) = some (decide (l = List.replicate l.length 0))
  | 0, j, h, hz => by
    rw [retconref13_blank.l0, if_neg (by omega)]
    congr 1
    symm
    refine decide_eq_true (List.ext_getElem (by simp) fun k h1 h2 => ?_)
    have h3 := hz k (by omega)
    rw [show rd l (k : Int) = l[k] by simp [Go.Proofs.YtgflghnbpbiakaaW.PrintWords.rd, List.getD_eq_getElem?_getD, List.getElem?_eq_getElem h1]] at h3
    simp [h3]
  | d + 1, j, h, hz => by
    rw [retconref13_blank.l0, if_pos (by omega), if_pos (by omega)]
    by_cases c : rd l (j : Int) = 0
    · rw [if_pos c, show wrap64 ((j : Int) + 1) = ((j + 1 : Nat) : Int) by unfold wrap64; omega]
      exact blank_l0 l hm d (j + 1) (by omega) (fun k hk => by
        rcases Nat.lt_or_ge k j with h1 | h1
        · exact hz k h1
        · obtain rfl : k = j := by omega
          exact c)
    · rw [if_neg c]
      congr 1
      symm
      refine decide_eq_false fun e => c ?_
      have hj : j < l.length := by omega
      rw [show rd l (j : Int) = l[j] by simp [Go.Proofs.YtgflghnbpbiakaaW.PrintWords.rd, List.getD_eq_getElem?_getD, List.getElem?_eq_getElem hj]]
      have := List.getElem_of_eq e hj
      rw [this]
      simp
theorem blank_f (l : List Int) (hl : l.length = 64) : retconref13_blank.f 65 l = some (decide (l = s64')) := by
  have h := blank_l0 l (by omega) 64 0 (by omega) (fun k hk => by omega)
  rw [hl] at h
  exact h
noncomputable def countS (b0 b1 : List Int) : SP := if bestB b0 b1 = 0 then unpS b0 else if bestB b0 b1 = 1 then unpS b1 else s0
set_option maxHeartbeats 8000000 in
set_option maxRecDepth 100000 in
theorem c_counts (A0 : Option Addr) (c0 : Nat) (b0 : List Int) (A1 : Option Addr) (c1 : Nat) (b1 : List Int) (w : World) (h0 : Kd.C (Kd.int .u8) w A0 64 b0) (hc0 : 64 ≤ c0) (hB0 : Bytes b0) (h1 : Kd.C (Kd.int .u8) w A1 64 b1) (hc1 : 64 ≤ c1) (hB1 : Bytes b1) :
    Calls Try.prog 54 #[.slice A0 64 c0, .slice A1 64 c1] w fun e w' => e = .returned (.tuple #[.agg (c25 (countS b0 b1)).toArray, .int .i64 (bestB b0 b1)]) ∧ Below w.heap.size w w' := by
  have hl0 := C_len h0
  have hl1 := C_len h1
  have HR0 := Aside0.mk h0
  have HR1 := Aside0.mk h1
  have CU0 := Aside0.mk (fun (w' : World) (h : Kd.C (Kd.int .u8) w' A0 b0.length b0) => c_rsunpack A0 c0 b0 w' h (by omega) (by omega) hB0)
  have CU1 := Aside0.mk (fun (w' : World) (h : Kd.C (Kd.int .u8) w' A1 b1.length b1) => c_rsunpack A1 c1 b1 w' h (by omega) (by omega) hB1)
  rw [hl0] at CU0
  rw [hl1] at CU1
  have HP := Aside0.mk (Hp.start w)
  have HBB : Aside0 (bestB b0 b1 = if isS b0 then (if isS b1 then (if (unpS b0).num < (unpS b1).num then 1 else 0) else 0) else if isS b1 then 1 else -1) := ⟨rfl⟩
  have HCS : Aside0 (countS b0 b1 = if bestB b0 b1 = 0 then unpS b0 else if bestB b0 b1 = 1 then unpS b1 else s0) := ⟨rfl⟩
  have HL0 := Aside0.mk (And.intro (c25_len (unpS b0) (unpS_root b0)) (And.intro (c25_one (unpS b0)) (c25_0 (unpS b0))))
  have HL1 := Aside0.mk (And.intro (c25_len (unpS b1) (unpS_root b1)) (And.intro (c25_one (unpS b1)) (c25_0 (unpS b1))))
  obtain ⟨n0, hn0⟩ : ∃ z, (unpS b0).num = z := ⟨_, rfl⟩
  obtain ⟨n1, hn1⟩ : ∃ z, (unpS b1).num = z := ⟨_, rfl⟩
  rw [hn0] at HL0
  rw [hn1] at HL1
  rw [hn0, hn1] at HBB
  obtain ⟨S0, hS0⟩ : ∃ z, unpS b0 = z := ⟨_, rfl⟩
  obtain ⟨S1, hS1⟩ : ∃ z, unpS b1 = z := ⟨_, rfl⟩
  rw [hS0, hS1] at HCS
  rw [hS0] at CU0 HL0
  rw [hS1] at CU1 HL1
  obtain ⟨x0, hx0⟩ : ∃ z, c25 S0 = z := ⟨_, rfl⟩
  obtain ⟨x1, hx1⟩ : ∃ z, c25 S1 = z := ⟨_, rfl⟩
  rw [hx0] at CU0 HL0
  rw [hx1] at CU1 HL1
  have HXX := Aside0.mk (And.intro hx0 hx1)
  obtain ⟨e0, he0⟩ : ∃ z, isS b0 = z := ⟨_, rfl⟩
  obtain ⟨e1, he1⟩ : ∃ z, isS b1 = z := ⟨_, rfl⟩
  rw [he0, he1] at HBB
  rw [he0] at CU0
  rw [he1] at CU1
  clear h0 h1 hl0 hl1 hn0 hn1 hS0 hS1 hx0 hx1 he0 he1 hB0 hB1 hc0 hc1
  go_enter Try.func54, Try.ntmps54
  go_wp2_with (first | ((with_reducible refine gate_dst (N := 4) rfl ?_); refine ev_alloc rfl 25 rfl (.agg (c25 s0).toArray) (by kernel_rfl) ?_; intro g_o w1 hge hg hb; have HPn := Aside0.mk (HP.out.newB hb hg hge); clear HP; have HP := HPn; clear HPn; clear hge hg hb))
  refine (CU0.out _ (Kd.C_below HR0.out HP.out.below)).mono ?_; rintro e w2 ⟨rfl, hb⟩; have HPn := Aside0.mk (HP.out.call hb); clear HP; have HP := HPn; clear HPn; clear hb
  go_wp2_with (first | ((with_reducible refine gate_dst (N := 6) rfl ?_); refine ev_alloc rfl 25 rfl (.agg (c25 s0).toArray) (by kernel_rfl) ?_; intro g_x w3 hge hg hb; have HPn := Aside0.mk (HP.out.newB hb hg hge); clear HP; have HP := HPn; clear HPn; clear hge hg hb) | ((with_reducible refine gate_store (t := 25) (p := 6) rfl ?_); refine ev_store rfl 25 (.tmp 6) (.tmp 13) rfl rfl _ rfl (cells := x0.toArray) rfl (HP.out.blk 0 rfl) (by rw [List.size_toArray, HL0.out.1]; kernel_rfl) (show (c25 s0).toArray.size = x0.toArray.size from by rw [List.size_toArray, List.size_toArray, HL0.out.1, c25_len s0 rfl]) HL0.out.2.1 ?_; intro w4 hg hgr; have HPn := Aside0.mk (HP.out.setB 0 rfl hgr hg); clear HP; have HP := HPn; clear HPn; clear hg hgr))
  refine (CU1.out _ (Kd.C_below HR1.out HP.out.below)).mono ?_; rintro e w5 ⟨rfl, hb⟩; have HPn := Aside0.mk (HP.out.call hb); clear HP; have HP := HPn; clear HPn; clear hb
  cases e0
  · cases e1
    · have HB2 := Aside0.mk (show bestB b0 b1 = -1 from by rw [HBB.out]; rfl)
      have HC2 := Aside0.mk (show c25 (countS b0 b1) = (c25 s0) from by rw [HCS.out, HB2.out]; rfl)
      clear HBB HCS
      go_wp2_with (first | ((with_reducible refine gate_dst (N := 8) rfl ?_); refine ev_alloc rfl 25 rfl (.agg (c25 s0).toArray) (by kernel_rfl) ?_; intro g_y w6 hge hg hb; have HPn := Aside0.mk (HP.out.newB hb hg hge); clear HP; have HP := HPn; clear HPn; clear hge hg hb) | ((with_reducible refine gate_store (t := 25) (p := 8) rfl ?_); refine ev_store rfl 25 (.tmp 8) (.tmp 18) rfl rfl _ rfl (cells := x1.toArray) rfl (HP.out.blk 0 rfl) (by rw [List.size_toArray, HL1.out.1]; kernel_rfl) (show (c25 s0).toArray.size = x1.toArray.size from by rw [List.size_toArray, List.size_toArray, HL1.out.1, c25_len s0 rfl]) HL1.out.2.1 ?_; intro w7 hg hgr; have HPn := Aside0.mk (HP.out.setB 0 rfl hgr hg); clear HP; have HP := HPn; clear HPn; clear hg hgr; have hcx := cell_in (HP.out.blk 1 rfl) 0 HL0.out.2.2; have hcy := cell_in (HP.out.blk 0 rfl) 0 HL1.out.2.2) | ((with_reducible refine gate_store (t := 25) (p := 4) rfl ?_); refine ev_store rfl 25 (.tmp 4) (.tmp 35) rfl rfl _ rfl (cells := (c25 s0).toArray) rfl (HP.out.blk 2 rfl) (by rw [List.size_toArray, c25_len s0 rfl]; kernel_rfl) (by rfl) (c25_one s0) ?_; intro w8 hg hgr; have HPn := Aside0.mk (HP.out.setB 2 rfl hgr hg); clear HP; have HP := HPn; clear HPn; clear hg hgr))
      refine bodyPost_ret (resCT rfl _ _ rfl (HP.out.blk 2 rfl) Try.underlying25 rfl (by rw [List.size_toArray, c25_len s0 rfl]; kernel_rfl) rfl) rfl ?_
      exact ⟨by rw [HC2.out, HB2.out]; rfl, HP.out.below⟩
    · have HB2 := Aside0.mk (show bestB b0 b1 = 1 from by rw [HBB.out]; rfl)
      have HC2 := Aside0.mk (show c25 (countS b0 b1) = x1 from by rw [HCS.out, HB2.out]; exact HXX.out.2)
      clear HBB HCS
      go_wp2_with (first | ((with_reducible refine gate_dst (N := 8) rfl ?_); refine ev_alloc rfl 25 rfl (.agg (c25 s0).toArray) (by kernel_rfl) ?_; intro g_y w6 hge hg hb; have HPn := Aside0.mk (HP.out.newB hb hg hge); clear HP; have HP := HPn; clear HPn; clear hge hg hb) | ((with_reducible refine gate_store (t := 25) (p := 8) rfl ?_); refine ev_store rfl 25 (.tmp 8) (.tmp 18) rfl rfl _ rfl (cells := x1.toArray) rfl (HP.out.blk 0 rfl) (by rw [List.size_toArray, HL1.out.1]; kernel_rfl) (show (c25 s0).toArray.size = x1.toArray.size from by rw [List.size_toArray, List.size_toArray, HL1.out.1, c25_len s0 rfl]) HL1.out.2.1 ?_; intro w7 hg hgr; have HPn := Aside0.mk (HP.out.setB 0 rfl hgr hg); clear HP; have HP := HPn; clear HPn; clear hg hgr; have hcx := cell_in (HP.out.blk 1 rfl) 0 HL0.out.2.2; have hcy := cell_in (HP.out.blk 0 rfl) 0 HL1.out.2.2) | ((with_reducible refine gate_dst (N := 34) rfl ?_); refine ev_load rfl 25 (.tmp 8) rfl g_y rfl (HP.out.blk 0 rfl) Try.underlying25 rfl (by rw [List.size_toArray, HL1.out.1]; kernel_rfl) ?_) | ((with_reducible refine gate_store (t := 25) (p := 4) rfl ?_); refine ev_store rfl 25 (.tmp 4) (.tmp 34) rfl rfl _ rfl (cells := x1.toArray) rfl (HP.out.blk 2 rfl) (by rw [List.size_toArray, HL1.out.1]; kernel_rfl) (show (c25 s0).toArray.size = x1.toArray.size from by rw [List.size_toArray, List.size_toArray, HL1.out.1, c25_len s0 rfl]) HL1.out.2.1 ?_; intro w8 hg hgr; have HPn := Aside0.mk (HP.out.setB 2 rfl hgr hg); clear HP; have HP := HPn; clear HPn; clear hg hgr))
      refine bodyPost_ret (resCT rfl _ _ rfl (HP.out.blk 2 rfl) Try.underlying25 rfl (by rw [List.size_toArray, HL1.out.1]; kernel_rfl) rfl) rfl ?_
      exact ⟨by rw [HC2.out, HB2.out]; rfl, HP.out.below⟩
  · cases e1
    · have HB2 := Aside0.mk (show bestB b0 b1 = 0 from by rw [HBB.out]; rfl)
      have HC2 := Aside0.mk (show c25 (countS b0 b1) = x0 from by rw [HCS.out, HB2.out]; exact HXX.out.1)
      clear HBB HCS
      go_wp2_with (first | ((with_reducible refine gate_dst (N := 8) rfl ?_); refine ev_alloc rfl 25 rfl (.agg (c25 s0).toArray) (by kernel_rfl) ?_; intro g_y w6 hge hg hb; have HPn := Aside0.mk (HP.out.newB hb hg hge); clear HP; have HP := HPn; clear HPn; clear hge hg hb) | ((with_reducible refine gate_store (t := 25) (p := 8) rfl ?_); refine ev_store rfl 25 (.tmp 8) (.tmp 18) rfl rfl _ rfl (cells := x1.toArray) rfl (HP.out.blk 0 rfl) (by rw [List.size_toArray, HL1.out.1]; kernel_rfl) (show (c25 s0).toArray.size = x1.toArray.size from by rw [List.size_toArray, List.size_toArray, HL1.out.1, c25_len s0 rfl]) HL1.out.2.1 ?_; intro w7 hg hgr; have HPn := Aside0.mk (HP.out.setB 0 rfl hgr hg); clear HP; have HP := HPn; clear HPn; clear hg hgr; have hcx := cell_in (HP.out.blk 1 rfl) 0 HL0.out.2.2; have hcy := cell_in (HP.out.blk 0 rfl) 0 HL1.out.2.2) | ((with_reducible refine gate_dst (N := 32) rfl ?_); refine ev_load rfl 25 (.tmp 6) rfl g_x rfl (HP.out.blk 1 rfl) Try.underlying25 rfl (by rw [List.size_toArray, HL0.out.1]; kernel_rfl) ?_) | ((with_reducible refine gate_store (t := 25) (p := 4) rfl ?_); refine ev_store rfl 25 (.tmp 4) (.tmp 32) rfl rfl _ rfl (cells := x0.toArray) rfl (HP.out.blk 2 rfl) (by rw [List.size_toArray, HL0.out.1]; kernel_rfl) (show (c25 s0).toArray.size = x0.toArray.size from by rw [List.size_toArray, List.size_toArray, HL0.out.1, c25_len s0 rfl]) HL0.out.2.1 ?_; intro w8 hg hgr; have HPn := Aside0.mk (HP.out.setB 2 rfl hgr hg); clear HP; have HP := HPn; clear HPn; clear hg hgr))
      refine bodyPost_ret (resCT rfl _ _ rfl (HP.out.blk 2 rfl) Try.underlying25 rfl (by rw [List.size_toArray, HL0.out.1]; kernel_rfl) rfl) rfl ?_
      exact ⟨by rw [HC2.out, HB2.out]; rfl, HP.out.below⟩
    · by_cases hlt : n0 < n1
      · have hge : decide (n0 ≥ n1) = false := decide_eq_false (by omega)
        have HLT := Aside0.mk hlt
        clear hlt
        have HB2 := Aside0.mk (show bestB b0 b1 = 1 from by rw [HBB.out]; rw [if_pos rfl, if_pos rfl, if_pos HLT.out])
        have HC2 := Aside0.mk (show c25 (countS b0 b1) = x1 from by rw [HCS.out, HB2.out]; exact HXX.out.2)
        clear HBB HCS
        go_wp2_with (first | ((with_reducible refine gate_dst (N := 8) rfl ?_); refine ev_alloc rfl 25 rfl (.agg (c25 s0).toArray) (by kernel_rfl) ?_; intro g_y w6 hge hg hb; have HPn := Aside0.mk (HP.out.newB hb hg hge); clear HP; have HP := HPn; clear HPn; clear hge hg hb) | ((with_reducible refine gate_store (t := 25) (p := 8) rfl ?_); refine ev_store rfl 25 (.tmp 8) (.tmp 18) rfl rfl _ rfl (cells := x1.toArray) rfl (HP.out.blk 0 rfl) (by rw [List.size_toArray, HL1.out.1]; kernel_rfl) (show (c25 s0).toArray.size = x1.toArray.size from by rw [List.size_toArray, List.size_toArray, HL1.out.1, c25_len s0 rfl]) HL1.out.2.1 ?_; intro w7 hg hgr; have HPn := Aside0.mk (HP.out.setB 0 rfl hgr hg); clear HP; have HP := HPn; clear HPn; clear hg hgr; have hcx := cell_in (HP.out.blk 1 rfl) 0 HL0.out.2.2; have hcy := cell_in (HP.out.blk 0 rfl) 0 HL1.out.2.2) | ((with_reducible refine gate_dst (N := 34) rfl ?_); refine ev_load rfl 25 (.tmp 8) rfl g_y rfl (HP.out.blk 0 rfl) Try.underlying25 rfl (by rw [List.size_toArray, HL1.out.1]; kernel_rfl) ?_) | ((with_reducible refine gate_store (t := 25) (p := 4) rfl ?_); refine ev_store rfl 25 (.tmp 4) (.tmp 34) rfl rfl _ rfl (cells := x1.toArray) rfl (HP.out.blk 2 rfl) (by rw [List.size_toArray, HL1.out.1]; kernel_rfl) (show (c25 s0).toArray.size = x1.toArray.size from by rw [List.size_toArray, List.size_toArray, HL1.out.1, c25_len s0 rfl]) HL1.out.2.1 ?_; intro w8 hg hgr; have HPn := Aside0.mk (HP.out.setB 2 rfl hgr hg); clear HP; have HP := HPn; clear HPn; clear hg hgr))
        refine bodyPost_ret (resCT rfl _ _ rfl (HP.out.blk 2 rfl) Try.underlying25 rfl (by rw [List.size_toArray, HL1.out.1]; kernel_rfl) rfl) rfl ?_
        exact ⟨by rw [HC2.out, HB2.out]; rfl, HP.out.below⟩
      · have hge : decide (n0 ≥ n1) = true := decide_eq_true (by omega)
        have HLT := Aside0.mk hlt
        clear hlt
        have HB2 := Aside0.mk (show bestB b0 b1 = 0 from by rw [HBB.out]; rw [if_pos rfl, if_pos rfl, if_neg HLT.out])
        have HC2 := Aside0.mk (show c25 (countS b0 b1) = x0 from by rw [HCS.out, HB2.out]; exact HXX.out.1)
        clear HBB HCS
        go_wp2_with (first | ((with_reducible refine gate_dst (N := 8) rfl ?_); refine ev_alloc rfl 25 rfl (.agg (c25 s0).toArray) (by kernel_rfl) ?_; intro g_y w6 hge hg hb; have HPn := Aside0.mk (HP.out.newB hb hg hge); clear HP; have HP := HPn; clear HPn; clear hge hg hb) | ((with_reducible refine gate_store (t := 25) (p := 8) rfl ?_); refine ev_store rfl 25 (.tmp 8) (.tmp 18) rfl rfl _ rfl (cells := x1.toArray) rfl (HP.out.blk 0 rfl) (by rw [List.size_toArray, HL1.out.1]; kernel_rfl) (show (c25 s0).toArray.size = x1.toArray.size from by rw [List.size_toArray, List.size_toArray, HL1.out.1, c25_len s0 rfl]) HL1.out.2.1 ?_; intro w7 hg hgr; have HPn := Aside0.mk (HP.out.setB 0 rfl hgr hg); clear HP; have HP := HPn; clear HPn; clear hg hgr; have hcx := cell_in (HP.out.blk 1 rfl) 0 HL0.out.2.2; have hcy := cell_in (HP.out.blk 0 rfl) 0 HL1.out.2.2) | ((with_reducible refine gate_dst (N := 32) rfl ?_); refine ev_load rfl 25 (.tmp 6) rfl g_x rfl (HP.out.blk 1 rfl) Try.underlying25 rfl (by rw [List.size_toArray, HL0.out.1]; kernel_rfl) ?_) | ((with_reducible refine gate_store (t := 25) (p := 4) rfl ?_); refine ev_store rfl 25 (.tmp 4) (.tmp 32) rfl rfl _ rfl (cells := x0.toArray) rfl (HP.out.blk 2 rfl) (by rw [List.size_toArray, HL0.out.1]; kernel_rfl) (show (c25 s0).toArray.size = x0.toArray.size from by rw [List.size_toArray, List.size_toArray, HL0.out.1, c25_len s0 rfl]) HL0.out.2.1 ?_; intro w8 hg hgr; have HPn := Aside0.mk (HP.out.setB 2 rfl hgr hg); clear HP; have HP := HPn; clear HPn; clear hg hgr))
        refine bodyPost_ret (resCT rfl _ _ rfl (HP.out.blk 2 rfl) Try.underlying25 rfl (by rw [List.size_toArray, HL0.out.1]; kernel_rfl) rfl) rfl ?_
        exact ⟨by rw [HC2.out, HB2.out]; rfl, HP.out.below⟩
def rslotsPost (w0 : World) (Rs : List Res) (R : RS) (e : Ending) (w' : World) : Prop :=
  (rslotsE R ≠ 0 ∧ e = .returned (.tuple #[.slice none 0 0, .slice none 0 0, .int .i64 (rslotsE R)]) ∧ Hp w0 w' Rs) ∨
  (rslotsE R = 0 ∧ ∃ A0 c0 A1 c1, e = .returned (.tuple #[.slice A0 64 c0, .slice A1 64 c1, .int .i64 0]) ∧ Hp w0 w' (.row (Kd.int .u8) 5 w0.heap.size (.slice A1 64 c1) (nowB R 1) :: .row (Kd.int .u8) 5 w0.heap.size (.slice A0 64 c0) (nowB R 0) :: Rs))
set_option maxHeartbeats 8000000 in
set_option maxRecDepth 100000 in
theorem c_rslots {w0 w : World} {Rs : List Res} (HP0 : Hp w0 w Rs) (i g : Nat) (R : RS) (ex : List Pt) (hi : Rs[i]? = some (rRef w0.heap.size g R ex)) (hls : R.soft.length ≤ 1000000) (hlf : R.firm.length ≤ 1000000) :
    Calls Try.prog 53 #[.pointer (some ⟨g, 0, none⟩)] w (rslotsPost w0 Rs R) := by
  have HP := Aside0.mk HP0
  have HI2 := Aside0.mk hi
  have HLL := Aside0.mk (And.intro hls hlf)
  obtain ⟨v1, v2, ps, hm, HP1⟩ := Hp.openR HP0 i g R ex hi
  have hc0 : w.cell? ⟨g, 0, none⟩ = some (.int .i64 R.many) := blk_cell (HP1.blk 0 rfl) 0
  have HSE : Aside0 (rslotsE R = if R.many < 2 then 8 else if R.out then 10 else 0) := ⟨rfl⟩
  have HRY0 := Aside0.mk (ready_R R 0)
  have HRY1 := Aside0.mk (ready_R R 1)
  obtain ⟨m, hm_⟩ : ∃ z, R.many = z := ⟨_, rfl⟩
  rw [hm_] at hc0 HSE HRY0 HRY1
  clear HP1 hm hi hls hlf HP0 hm_
  by_cases h2 : m < 2
  · have d2 : decide (m < 2) = true := decide_eq_true h2
    have HE := Aside0.mk (show rslotsE R = 8 from by rw [HSE.out, if_pos h2])
    clear h2
    go_enter Try.func53, Try.ntmps53
    go_wp2_with fail
    refine bodyPost_ret (results_three rfl _ _ rfl rfl rfl) rfl ?_
    exact Or.inl ⟨by rw [HE.out]; decide, by rw [HE.out]; rfl, HP.out⟩
  have d2 : decide (m < 2) = false := decide_eq_false h2
  cases ho : R.out with
  | true =>
    have HE := Aside0.mk (show rslotsE R = 10 from by rw [HSE.out, if_neg h2, ho]; rfl)
    have h10 := HRY0.out.1 ho
    have CR := Aside0.mk (fun w (HP : Hp w0 w Rs) => c_rreadE HP i g R ex HI2.out 0 (by rw [h10]; decide))
    rw [h10] at CR
    clear h2 ho h10
    go_enter Try.func53, Try.ntmps53
    go_wp2_with fail
    refine (CR.out _ HP.out).mono ?_; rintro e w_ ⟨rfl, rfl⟩
    go_wp2_with fail
    refine bodyPost_ret (results_three rfl _ _ rfl rfl rfl) rfl ?_
    exact Or.inl ⟨by rw [HE.out]; decide, by rw [HE.out]; rfl, HP.out⟩
  | false =>
    have HE := Aside0.mk (show rslotsE R = 0 from by rw [HSE.out, if_neg h2, ho]; rfl)
    have k0 := HRY0.out.2.2 ho (by omega)
    have k1 := HRY1.out.2.2 ho (by omega)
    have CR0 := Aside0.mk (c_rread HP.out i g R ex HI2.out HLL.out.1 HLL.out.2 0 k0)
    have HK1 := Aside0.mk k1
    clear h2 ho k0 k1
    go_enter Try.func53, Try.ntmps53
    go_wp2_with fail
    refine CR0.out.mono ?_; rintro e w1 ⟨A0, c0, rfl, hpn⟩
    clear HP CR0 hc0
    have HP := Aside0.mk hpn
    clear hpn
    go_wp2_with fail
    refine (c_rread HP.out (i + 1) g R ex HI2.out HLL.out.1 HLL.out.2 1 HK1.out).mono ?_; rintro e w2 ⟨A1, c1, rfl, hpn⟩
    clear HP
    have HP := Aside0.mk hpn
    clear hpn
    go_wp2_with fail
    refine bodyPost_ret (results_three rfl _ _ rfl rfl rfl) rfl ?_
    exact Or.inr ⟨HE.out, A0, c0, A1, c1, rfl, HP.out⟩
set_option maxHeartbeats 8000000 in
set_option maxRecDepth 100000 in
theorem c_rload {w0 w : World} {Rs : List Res} (HP0 : Hp w0 w Rs) (i g : Nat) (R : RS) (ex : List Pt) (hi : Rs[i]? = some (rRef w0.heap.size g R ex)) (S : DS) (hS : Sim S R) (hok : okD S) (hlf : R.firm.length ≤ 1000000) :
    Calls Try.prog 35 #[.pointer (some ⟨g, 0, none⟩)] w fun e w' => e = .returned (.tuple #[.agg (c25 (loadS S)).toArray, .int .i64 (loadK S), .int .i64 (loadE S)]) ∧ Hp w0 w' Rs := by
  have HP := Aside0.mk HP0
  have HI := Aside0.mk hi
  have HLL := Aside0.mk (And.intro (show R.soft.length ≤ 1000000 by have := hok.2.2; rw [hS.l] at this; simp [nbP] at this; omega) hlf)
  have HSE := Aside0.mk (show rslotsE R = slotsE S from by unfold rslotsE slotsE; rw [hS.many, hS.out])
  have HBC := Aside0.mk (best_cases S)
  have HS0 := Aside0.mk (And.intro (sec_ok hok 0) (sec_ok hok 1))
  have HN0 := Aside0.mk (And.intro (sim_sec hS 0) (sim_sec hS 1))
  have HCS : Aside0 (countS (sec S 0) (sec S 1) = if bestB (sec S 0) (sec S 1) = 0 then unpS (sec S 0) else if bestB (sec S 0) (sec S 1) = 1 then unpS (sec S 1) else s0) := ⟨rfl⟩
  have HBL : Aside0 (blankS S = (decide (sec S 0 = s64') || decide (sec S 1 = s64'))) := ⟨rfl⟩
  have HV := Aside0.mk (show (slotsE S ≠ 0 → loadS S = s0 ∧ loadK S = 0 ∧ loadE S = slotsE S) ∧ (slotsE S = 0 → 0 ≤ bestD S → loadS S = unpS (sec S (bestD S)) ∧ loadK S = bestD S ∧ loadE S = 0) ∧ (slotsE S = 0 → ¬ 0 ≤ bestD S → loadS S = s0 ∧ loadK S = 0 ∧ loadE S = if blankS S then 6 else 11) from by
    unfold loadS loadK loadE
    refine ⟨fun h => ?_, fun h h2 => ?_, fun h h2 => ?_⟩
    · rw [if_pos h, if_pos h, if_pos h]; exact ⟨rfl, rfl, rfl⟩
    · simp [h, h2]
    · simp [h, h2])
  clear HP0 hi hS hok hlf
  go_enter Try.func35, Try.ntmps35
  go_wp2_with (first | ((with_reducible refine gate_dst (N := 2) rfl ?_); refine ev_alloc rfl 25 rfl (.agg (c25 s0).toArray) (by kernel_rfl) ?_; intro g_o w1 hge hg hb; have HPn := Aside0.mk (HP.out.newB hb hg hge); clear HP; have HP := HPn; clear HPn; clear hge hg hb))
  refine (c_rslots HP.out (i + 1) g R ex HI.out HLL.out.1 HLL.out.2).mono ?_
  rintro e w2 (⟨hne, rfl, hpn⟩ | ⟨h0, A0, c0, A1, c1, rfl, hpn⟩)
  · clear HP
    have HP := Aside0.mk hpn
    rw [HSE.out] at hne ⊢
    have HVV := Aside0.mk (HV.out.1 hne)
    obtain ⟨q, hq⟩ : ∃ z, slotsE S = z := ⟨_, rfl⟩
    rw [hq] at hne HVV ⊢
    have d0 : (q != 0) = true := bne_iff_ne.2 hne
    clear hne hpn hq HV HBC
    go_wp2_with (first | ((with_reducible refine gate_store (t := 25) (p := 2) rfl ?_); refine ev_store rfl 25 (.tmp 2) (.tmp 18) rfl rfl _ rfl (cells := (c25 s0).toArray) rfl (HP.out.blk 0 rfl) (by rw [List.size_toArray, c25_len s0 rfl]; kernel_rfl) (by rfl) (c25_one s0) ?_; intro w3 hg hgr; have HPn := Aside0.mk (HP.out.setB 0 rfl hgr hg); clear HP; have HP := HPn; clear HPn; clear hg hgr))
    refine bodyPost_ret (resCTT rfl _ _ rfl (HP.out.blk 0 rfl) Try.underlying25 rfl (by rw [List.size_toArray, c25_len s0 rfl]; kernel_rfl) rfl rfl) rfl ?_
    exact ⟨by rw [HVV.out.1, HVV.out.2.1, HVV.out.2.2]; rfl, HP.out.drop1⟩
  rw [HSE.out] at h0
  have HVA := Aside0.mk (And.intro (HV.out.2.1 h0) (HV.out.2.2 h0))
  clear HP HV h0
  rw [← HN0.out.1, ← HN0.out.2] at hpn
  have HP := Aside0.mk hpn
  clear hpn
  obtain ⟨b0, hb0⟩ : ∃ z, sec S 0 = z := ⟨_, rfl⟩
  obtain ⟨b1, hb1⟩ : ∃ z, sec S 1 = z := ⟨_, rfl⟩
  have HB01 := Aside0.mk (And.intro hb0 hb1)
  rw [hb0, hb1] at HP HS0 HCS HBL
  clear hb0 hb1
  have CB0 := Aside0.mk (fun (w' : World) (h : Kd.C (Kd.int .u8) w' A0 64 b0) (hc : 64 ≤ c0) => retconref13_blank.calls 65 A0 c0 b0 _ w' (by rw [HS0.out.1.1]; exact h) (by rw [HS0.out.1.1]; exact hc) (blank_f b0 HS0.out.1.1))
  have CB1 := Aside0.mk (fun (w' : World) (h : Kd.C (Kd.int .u8) w' A1 64 b1) (hc : 64 ≤ c1) => retconref13_blank.calls 65 A1 c1 b1 _ w' (by rw [HS0.out.2.1]; exact h) (by rw [HS0.out.2.1]; exact hc) (blank_f b1 HS0.out.2.1))
  rw [HS0.out.1.1] at CB0
  rw [HS0.out.2.1] at CB1
  obtain ⟨z0, hz0⟩ : ∃ z, decide (b0 = s64') = z := ⟨_, rfl⟩
  obtain ⟨z1, hz1⟩ : ∃ z, decide (b1 = s64') = z := ⟨_, rfl⟩
  rw [hz0] at CB0
  rw [hz1] at CB1
  rw [hz0, hz1] at HBL
  have R0 := Aside0.mk (fun (w' : World) (l : List Res) (k : Nat) (h : Hp w0 w' l) (hk : l[k]? = some (.row (Kd.int .u8) 5 w0.heap.size (.slice A0 64 c0) b0)) => (show Kd.C (Kd.int .u8) w' A0 64 b0 ∧ 64 ≤ c0 from by have h1 := Kd.R_reads' (h.row k hk); have h2 := h1.2.2; rw [HS0.out.1.1] at h2; exact ⟨h2, h1.2.1⟩))
  have R1 := Aside0.mk (fun (w' : World) (l : List Res) (k : Nat) (h : Hp w0 w' l) (hk : l[k]? = some (.row (Kd.int .u8) 5 w0.heap.size (.slice A1 64 c1) b1)) => (show Kd.C (Kd.int .u8) w' A1 64 b1 ∧ 64 ≤ c1 from by have h1 := Kd.R_reads' (h.row k hk); have h2 := h1.2.2; rw [HS0.out.2.1] at h2; exact ⟨h2, h1.2.1⟩))
  clear hz0 hz1
  go_wp2_with fail
  refine (c_counts A0 c0 b0 A1 c1 b1 _ (R0.out _ _ 1 HP.out rfl).1 (R0.out _ _ 1 HP.out rfl).2 HS0.out.1.2 (R1.out _ _ 0 HP.out rfl).1 (R1.out _ _ 0 HP.out rfl).2 HS0.out.2.2).mono ?_; rintro e w3 ⟨rfl, hb⟩; have HPn := Aside0.mk (HP.out.call hb); clear HP; have HP := HPn; clear HPn; clear hb
  have HCL := Aside0.mk (show (countS b0 b1).root.length = 32 from by rw [HCS.out]; split; exact unpS_root _; split; exact unpS_root _; rfl)
  have HL := Aside0.mk (And.intro (c25_len _ HCL.out) (c25_one (countS b0 b1)))
  have HBD := Aside0.mk (show bestD S = bestB b0 b1 from by unfold bestD; rw [HB01.out.1, HB01.out.2])
  have HVC := Aside0.mk (show 0 ≤ bestB b0 b1 → loadS S = countS b0 b1 ∧ loadK S = bestB b0 b1 ∧ loadE S = 0 from fun h => by
    have h1 := HVA.out.1 (by rw [HBD.out]; exact h)
    have h2 := HBC.out
    rw [HBD.out] at h1 h2
    refine ⟨?_, h1.2.1, h1.2.2⟩
    rw [h1.1, HCS.out]
    rcases h2 with h3 | h3 | h3
    · omega
    · rw [h3.1, if_pos rfl, HB01.out.1]
    · rw [h3.1, if_neg (by decide), if_pos rfl, HB01.out.2])
  have HVD := Aside0.mk (show ¬ 0 ≤ bestB b0 b1 → loadS S = s0 ∧ loadK S = 0 ∧ loadE S = if z0 || z1 then 6 else 11 from fun h => by
    have h1 := HVA.out.2 (by rw [HBD.out]; first | exact h | omega)
    rw [HBL.out] at h1
    exact h1)
  obtain ⟨cc, hcc⟩ : ∃ z, c25 (countS b0 b1) = z := ⟨_, rfl⟩
  have HCC := Aside0.mk hcc
  rw [hcc] at HL ⊢
  obtain ⟨B, hB⟩ : ∃ z, bestB b0 b1 = z := ⟨_, rfl⟩
  rw [hB] at HVC HVD ⊢
  clear HVA HBC HCS HBD hB hcc HCL
  by_cases hge : 0 ≤ B
  · have dg : decide (B ≥ 0) = true := decide_eq_true hge
    have HVV := Aside0.mk (HVC.out hge)
    clear hge HVC HVD
    go_wp2_with (first | ((with_reducible refine gate_dst (N := 8) rfl ?_); refine ev_alloc rfl 25 rfl (.agg (c25 s0).toArray) (by kernel_rfl) ?_; intro g_c w4 hge hg hb; have HPn := Aside0.mk (HP.out.newB hb hg hge); clear HP; have HP := HPn; clear HPn; clear hge hg hb) | ((with_reducible refine gate_store (t := 25) (p := 8) rfl ?_); refine ev_store rfl 25 (.tmp 8) (.tmp 24) rfl rfl _ rfl (cells := cc.toArray) rfl (HP.out.blk 0 rfl) (by rw [List.size_toArray, HL.out.1]; kernel_rfl) (show (c25 s0).toArray.size = cc.toArray.size from by rw [List.size_toArray, List.size_toArray, HL.out.1, c25_len s0 rfl]) HL.out.2 ?_; intro w5 hg hgr; have HPn := Aside0.mk (HP.out.setB 0 rfl hgr hg); clear HP; have HP := HPn; clear HPn; clear hg hgr) | ((with_reducible refine gate_dst (N := 28) rfl ?_); refine ev_load rfl 25 (.tmp 8) rfl g_c rfl (HP.out.blk 0 rfl) Try.underlying25 rfl (by rw [List.size_toArray, HL.out.1]; kernel_rfl) ?_) | ((with_reducible refine gate_store (t := 25) (p := 2) rfl ?_); refine ev_store rfl 25 (.tmp 2) (.tmp 28) rfl rfl _ rfl (cells := cc.toArray) rfl (HP.out.blk 3 rfl) (by rw [List.size_toArray, HL.out.1]; kernel_rfl) (show (c25 s0).toArray.size = cc.toArray.size from by rw [List.size_toArray, List.size_toArray, HL.out.1, c25_len s0 rfl]) HL.out.2 ?_; intro w6 hg hgr; have HPn := Aside0.mk (HP.out.setB 3 rfl hgr hg); clear HP; have HP := HPn; clear HPn; clear hg hgr))
    refine bodyPost_ret (resCTT rfl _ _ rfl (HP.out.blk 3 rfl) Try.underlying25 rfl (by rw [List.size_toArray, HL.out.1]; kernel_rfl) rfl rfl) rfl ?_
    exact ⟨by rw [HVV.out.1, HVV.out.2.1, HVV.out.2.2, HCC.out]; rfl, Hp.dropN [_, _, _, _] HP.out⟩
  have dg : decide (B ≥ 0) = false := decide_eq_false hge
  have HVV := Aside0.mk (HVD.out hge)
  clear hge HVC HVD
  go_wp2_with (first | ((with_reducible refine gate_dst (N := 8) rfl ?_); refine ev_alloc rfl 25 rfl (.agg (c25 s0).toArray) (by kernel_rfl) ?_; intro g_c w4 hge hg hb; have HPn := Aside0.mk (HP.out.newB hb hg hge); clear HP; have HP := HPn; clear HPn; clear hge hg hb) | ((with_reducible refine gate_store (t := 25) (p := 8) rfl ?_); refine ev_store rfl 25 (.tmp 8) (.tmp 24) rfl rfl _ rfl (cells := cc.toArray) rfl (HP.out.blk 0 rfl) (by rw [List.size_toArray, HL.out.1]; kernel_rfl) (show (c25 s0).toArray.size = cc.toArray.size from by rw [List.size_toArray, List.size_toArray, HL.out.1, c25_len s0 rfl]) HL.out.2 ?_; intro w5 hg hgr; have HPn := Aside0.mk (HP.out.setB 0 rfl hgr hg); clear HP; have HP := HPn; clear HPn; clear hg hgr))
  refine (CB0.out _ (R0.out _ _ 2 HP.out rfl).1 (R0.out _ _ 2 HP.out rfl).2).mono ?_; rintro e w_ ⟨rfl, n_, rfl⟩; have HPn := Aside0.mk (HP.out.drewN n_); clear HP; have HP := HPn; clear HPn
  cases z0
  · go_wp2_with fail
    refine (CB1.out _ (R1.out _ _ 1 HP.out rfl).1 (R1.out _ _ 1 HP.out rfl).2).mono ?_; rintro e w_ ⟨rfl, n2_, rfl⟩; have HPn := Aside0.mk (HP.out.drewN n2_); clear HP; have HP := HPn; clear HPn; (try simp only [World.drewN_drewN] at HP)
    cases z1
    · go_wp2_with (first | ((with_reducible refine gate_store (t := 25) (p := 2) rfl ?_); refine ev_store rfl 25 (.tmp 2) (.tmp 37) rfl rfl _ rfl (cells := (c25 s0).toArray) rfl (HP.out.blk 3 rfl) (by rw [List.size_toArray, c25_len s0 rfl]; kernel_rfl) (by rfl) (c25_one s0) ?_; intro w7 hg hgr; have HPn := Aside0.mk (HP.out.setB 3 rfl hgr hg); clear HP; have HP := HPn; clear HPn; clear hg hgr))
      refine bodyPost_ret (resCTT rfl _ _ rfl (HP.out.blk 3 rfl) Try.underlying25 rfl (by rw [List.size_toArray, c25_len s0 rfl]; kernel_rfl) rfl rfl) rfl ?_
      exact ⟨by rw [HVV.out.1, HVV.out.2.1, HVV.out.2.2]; rfl, Hp.dropN [_, _, _, _] HP.out⟩
    · go_wp2_with (first | ((with_reducible refine gate_store (t := 25) (p := 2) rfl ?_); refine ev_store rfl 25 (.tmp 2) (.tmp 36) rfl rfl _ rfl (cells := (c25 s0).toArray) rfl (HP.out.blk 3 rfl) (by rw [List.size_toArray, c25_len s0 rfl]; kernel_rfl) (by rfl) (c25_one s0) ?_; intro w7 hg hgr; have HPn := Aside0.mk (HP.out.setB 3 rfl hgr hg); clear HP; have HP := HPn; clear HPn; clear hg hgr))
      refine bodyPost_ret (resCTT rfl _ _ rfl (HP.out.blk 3 rfl) Try.underlying25 rfl (by rw [List.size_toArray, c25_len s0 rfl]; kernel_rfl) rfl rfl) rfl ?_
      exact ⟨by rw [HVV.out.1, HVV.out.2.1, HVV.out.2.2]; rfl, Hp.dropN [_, _, _, _] HP.out⟩
  · go_wp2_with (first | ((with_reducible refine gate_store (t := 25) (p := 2) rfl ?_); refine ev_store rfl 25 (.tmp 2) (.tmp 36) rfl rfl _ rfl (cells := (c25 s0).toArray) rfl (HP.out.blk 3 rfl) (by rw [List.size_toArray, c25_len s0 rfl]; kernel_rfl) (by rfl) (c25_one s0) ?_; intro w7 hg hgr; have HPn := Aside0.mk (HP.out.setB 3 rfl hgr hg); clear HP; have HP := HPn; clear HPn; clear hg hgr))
    refine bodyPost_ret (resCTT rfl _ _ rfl (HP.out.blk 3 rfl) Try.underlying25 rfl (by rw [List.size_toArray, c25_len s0 rfl]; kernel_rfl) rfl rfl) rfl ?_
    exact ⟨by rw [HVV.out.1, HVV.out.2.1, HVV.out.2.2]; rfl, Hp.dropN [_, _, _, _] HP.out⟩
set_option maxHeartbeats 8000000 in
set_option maxRecDepth 100000 in
theorem c_rsave {w0 w : World} {Rs : List Res} (HP0 : Hp w0 w Rs) (i g : Nat) (R : RS) (ex : List Pt) (hi : Rs[i]? = some (rRef w0.heap.size g R ex)) (S : DS) (hS : Sim S R) (hok : okD S) (hlf : R.firm.length ≤ 50000) (s : SP) (hl : s.root.length = 32) (hB : Bytes s.root) :
    Calls Try.prog 29 #[.pointer (some ⟨g, 0, none⟩), .agg (c25 s).toArray] w fun e w' => e = .returned (.int .i64 (saveE S s)) ∧ ∃ R' ex', Sim (saveS S s) R' ∧ R'.firm.length ≤ R.firm.length + R.soft.length + 1 ∧ Hp w0 w' (Rs.set i (rRef w0.heap.size g R' ex')) := by
  have HP := Aside0.mk HP0
  have HI := Aside0.mk hi
  have HIL := Aside0.mk (show i < Rs.length from (List.getElem?_eq_some_iff.1 hi).1)
  have HSELF := Aside0.mk (show Rs.set i (rRef w0.heap.size g R ex) = Rs from set_self hi)
  have HLL := Aside0.mk (And.intro (show R.soft.length ≤ 1000 by have := hok.2.2; rw [hS.l] at this; simpa [nbP] using this) hlf)
  have HSM := Aside0.mk hS
  have HSE := Aside0.mk (show rslotsE R = slotsE S from by unfold rslotsE slotsE; rw [hS.many, hS.out])
  have HBC := Aside0.mk (best_cases S)
  have HS0 := Aside0.mk (And.intro (sec_ok hok 0) (sec_ok hok 1))
  have HN0 := Aside0.mk (And.intro (sim_sec hS 0) (sim_sec hS 1))
  have HL35 := Aside0.mk (c25_len s hl)
  have HN := Aside0.mk (c25_0 s)
  have CP0 := Aside0.mk (fun (h : chk s = false) w => c_rspack0 s hl h w)
  have CP8 := Aside0.mk (fun (h : chk s = true) w => c_rspack s hl hB h w)
  have HPL := Aside0.mk (And.intro (packS_len s hl) (packS_bytes s hB))
  have HEV := Aside0.mk (show (chk s = false → saveE S s = 2 ∧ saveS S s = S) ∧ (chk s = true → slotsE S ≠ 0 → saveE S s = slotsE S ∧ saveS S s = S) ∧ (chk s = true → slotsE S = 0 → lateD S s = true → saveE S s = 5 ∧ saveS S s = S) ∧ (chk s = true → slotsE S = 0 → lateD S s = false → ∀ o, otherD S = o → saveE S s = (if writeE S o (packS s) ≠ 0 then writeE S o (packS s) else flushE (writeS S o (packS s))) ∧ saveS S s = (if writeE S o (packS s) ≠ 0 then writeS S o (packS s) else flushS (writeS S o (packS s)))) from by
    unfold saveE saveS
    refine ⟨fun h => ?_, fun h h2 => ?_, fun h h2 h3 => ?_, fun h h2 h3 o ho => ?_⟩
    · simp [h]
    · simp [h, h2]
    · simp [h, h2, h3]
    · simp [h, h2, h3, ho])
  obtain ⟨cs, hcs⟩ : ∃ z, c25 s = z := ⟨_, rfl⟩
  rw [hcs] at HL35 HN CP0 CP8 ⊢
  obtain ⟨X, hX⟩ : ∃ z, packS s = z := ⟨_, rfl⟩
  rw [hX] at CP8 HPL HEV
  clear hcs HP0 hi hok hl hB hX hS hlf
  go_enter Try.func29, Try.ntmps29
  go_wp2_with (first | ((with_reducible refine gate_dst (N := 3) rfl ?_); refine ev_box rfl 25 (.tmp 1) rfl (cs.toArray) rfl ?_; intro g_s w1 hge hg hb; have HPn := Aside0.mk (HP.out.newB hb hg hge); clear HP; have HP := HPn; clear HPn; clear hge hg hb) | ((with_reducible refine gate_dst (N := 13) rfl ?_); refine ev_load rfl 25 (.tmp 3) rfl g_s rfl (HP.out.blk 0 rfl) Try.underlying25 rfl (by rw [List.size_toArray, HL35.out]; kernel_rfl) ?_))
  cases hk : chk s with
  | false =>
    have HE := Aside0.mk (HEV.out.1 hk)
    refine (CP0.out hk _).mono ?_; rintro e w3 ⟨rfl, hb⟩; have HPn := Aside0.mk (HP.out.call hb); clear HP; have HP := HPn; clear HPn; clear hb
    clear hk
    go_wp2_with fail
    go_ret
    exact ⟨by rw [HE.out.1]; rfl, R, ex, by rw [HE.out.2]; exact HSM.out, by omega, by rw [HSELF.out]; exact HP.out.drop1⟩
  | true =>
    have HEW := Aside0.mk (And.intro (HEV.out.2.1 hk) (And.intro (HEV.out.2.2.1 hk) (HEV.out.2.2.2 hk)))
    refine (CP8.out hk _).mono ?_; rintro e w3 ⟨v, rfl, ho, hb⟩
    have HPn := Aside0.mk (HP.out.newR hb ho)
    clear HP hb ho hk HEV
    have HP := HPn
    clear HPn
    obtain ⟨A_p, c_p, rfl⟩ := Kd.R_slice (HP.out.row 0 rfl)
    go_wp2_with fail
    refine (c_rslots HP.out (i + 2) g R ex HI.out (by have := HLL.out.1; omega) (by have := HLL.out.2; omega)).mono ?_
    rintro e w4 (⟨hne, rfl, hpn⟩ | ⟨h0, A0, c0, A1, c1, rfl, hpn⟩)
    · clear HP
      have HP := Aside0.mk hpn
      rw [HSE.out] at hne ⊢
      have HE := Aside0.mk (HEW.out.1 hne)
      obtain ⟨q, hq⟩ : ∃ z, slotsE S = z := ⟨_, rfl⟩
      rw [hq] at hne HE ⊢
      have d0 : (q != 0) = true := bne_iff_ne.2 hne
      clear hne hpn hq
      go_wp2_with fail
      go_ret
      exact ⟨by rw [HE.out.1]; rfl, R, ex, by rw [HE.out.2]; exact HSM.out, by omega, by rw [HSELF.out]; exact HP.out.drop1.drop1⟩
    rw [HSE.out] at h0
    have HEX := Aside0.mk (And.intro (HEW.out.2.1 h0) (HEW.out.2.2 h0))
    clear HP HEW h0
    rw [← HN0.out.1, ← HN0.out.2] at hpn
    have HP := Aside0.mk hpn
    clear hpn
    have HLD : Aside0 (lateD S s = (decide (0 ≤ bestD S) && decide (s.num ≤ (unpS (sec S (bestD S))).num))) := ⟨rfl⟩
    have HOD : Aside0 (otherD S = if bestD S = 0 then 1 else 0) := ⟨rfl⟩
    have HCS : Aside0 (countS (sec S 0) (sec S 1) = if bestB (sec S 0) (sec S 1) = 0 then unpS (sec S 0) else if bestB (sec S 0) (sec S 1) = 1 then unpS (sec S 1) else s0) := ⟨rfl⟩
    have HBD : Aside0 (bestD S = bestB (sec S 0) (sec S 1)) := ⟨rfl⟩
    obtain ⟨B, hB⟩ : ∃ z, bestB (sec S 0) (sec S 1) = z := ⟨_, rfl⟩
    rw [hB] at HBD HCS
    rw [HBD.out] at HLD HOD HBC
    have HCN := Aside0.mk (show 0 ≤ B → (countS (sec S 0) (sec S 1)).num = (unpS (sec S B)).num from fun h => by
      rw [HCS.out]
      rcases HBC.out with h3 | h3 | h3
      · omega
      · rw [h3.1, if_pos rfl]
      · rw [h3.1, if_neg (by decide), if_pos rfl])
    have HCL := Aside0.mk (show (countS (sec S 0) (sec S 1)).root.length = 32 from by rw [HCS.out]; split; exact unpS_root _; split; exact unpS_root _; rfl)
    have CC := Aside0.mk (fun (w : World) h0 hc0 h1 hc1 => c_counts A0 c0 (sec S 0) A1 c1 (sec S 1) w h0 hc0 HS0.out.1.2 h1 hc1 HS0.out.2.2)
    rw [hB] at CC
    obtain ⟨b0, hb0⟩ : ∃ z, sec S 0 = z := ⟨_, rfl⟩
    obtain ⟨b1, hb1⟩ : ∃ z, sec S 1 = z := ⟨_, rfl⟩
    rw [hb0, hb1] at HP HS0 HCN HCL CC
    clear hb0 hb1 hB HCS HBD HN0
    have HL := Aside0.mk (And.intro (c25_len _ HCL.out) (And.intro (c25_one (countS b0 b1)) (c25_0 (countS b0 b1))))
    obtain ⟨nc, hnc⟩ : ∃ z, (countS b0 b1).num = z := ⟨_, rfl⟩
    rw [hnc] at HL HCN
    obtain ⟨cc, hcc⟩ : ∃ z, c25 (countS b0 b1) = z := ⟨_, rfl⟩
    rw [hcc] at HL CC
    clear hnc hcc HCL
    obtain ⟨nn, hnn⟩ : ∃ z, s.num = z := ⟨_, rfl⟩
    rw [hnn] at HN HLD
    clear hnn
    go_wp2_with fail
    refine (CC.out _ (by have h := (Kd.R_reads' (HP.out.row 1 rfl)).2.2; rw [HS0.out.1.1] at h; exact h) (Kd.R_reads' (HP.out.row 1 rfl)).2.1 (by have h := (Kd.R_reads' (HP.out.row 0 rfl)).2.2; rw [HS0.out.2.1] at h; exact h) (Kd.R_reads' (HP.out.row 0 rfl)).2.1).mono ?_; rintro e w5 ⟨rfl, hb⟩; have HPn := Aside0.mk (HP.out.call hb); clear HP; have HP := HPn; clear HPn; clear hb
    have CW := Aside0.mk (fun (o : Int) (w : World) (b : Res) (HP : Hp w0 w (b :: .row (Kd.int .u8) 5 w0.heap.size (.slice A1 64 c1) b1 :: .row (Kd.int .u8) 5 w0.heap.size (.slice A0 64 c0) b0 :: .row (Kd.int .u8) 5 w0.heap.size (.slice A_p X.length c_p) X :: .blk g_s (.cells cs.toArray 25 (0, 0)) :: Rs)) =>
      c_rwrite HP (i + 5) g R ex HI.out (by have := HLL.out.1; omega) o A_p c_p X (by rw [HPL.out.1]; decide) (Rd.row 3 (by omega) rfl) HPL.out.2)
    have HWE := Aside0.mk (fun (o : Int) => sim_write HSM.out o X)
    by_cases hge : 0 ≤ B
    · have dg : decide (B ≥ 0) = true := decide_eq_true hge
      have HCM := Aside0.mk (HCN.out hge)
      have HLE := Aside0.mk (show lateD S s = decide (nn ≤ nc) from by rw [HLD.out, ← HCM.out, decide_eq_true hge]; rfl)
      by_cases hlate : nn ≤ nc
      · have dl : decide (nc ≥ nn) = true := decide_eq_true hlate
        have HE := Aside0.mk (HEX.out.1 (by rw [HLE.out]; exact decide_eq_true hlate))
        clear hge hlate
        go_wp2_with (first | ((with_reducible refine gate_dst (N := 9) rfl ?_); refine ev_alloc rfl 25 rfl (.agg (c25 s0).toArray) (by kernel_rfl) ?_; intro g_c w6 hge hg hb; have HPn := Aside0.mk (HP.out.newB hb hg hge); clear HP; have HP := HPn; clear HPn; clear hge hg hb) | ((with_reducible refine gate_store (t := 25) (p := 9) rfl ?_); refine ev_store rfl 25 (.tmp 9) (.tmp 33) rfl rfl _ rfl (cells := cc.toArray) rfl (HP.out.blk 0 rfl) (by rw [List.size_toArray, HL.out.1]; kernel_rfl) (show (c25 s0).toArray.size = cc.toArray.size from by rw [List.size_toArray, List.size_toArray, HL.out.1, c25_len s0 rfl]) HL.out.2.1 ?_; intro w7 hg hgr; have HPn := Aside0.mk (HP.out.setB 0 rfl hgr hg); clear HP; have HP := HPn; clear HPn; clear hg hgr; have hcn := cell_in (HP.out.blk 0 rfl) 0 HL.out.2.2; have hcs_ := cell_in (HP.out.blk 4 rfl) 0 HN.out))
        go_ret
        exact ⟨by rw [HE.out.1]; rfl, R, ex, by rw [HE.out.2]; exact HSM.out, by omega, by rw [HSELF.out]; exact Hp.dropN [_, _, _, _, _] HP.out⟩
      · have dl : decide (nc ≥ nn) = false := decide_eq_false (by omega)
        have HEL := Aside0.mk (HEX.out.2 (by rw [HLE.out]; exact decide_eq_false hlate))
        by_cases hB0 : B = 0
        · have d0 : (B == 0) = true := beq_iff_eq.2 hB0
          have HEE := Aside0.mk (HEL.out 1 (by rw [HOD.out, if_pos hB0]))
          clear hge hlate hB0
          go_wp2_with (first | ((with_reducible refine gate_dst (N := 9) rfl ?_); refine ev_alloc rfl 25 rfl (.agg (c25 s0).toArray) (by kernel_rfl) ?_; intro g_c w6 hge hg hb; have HPn := Aside0.mk (HP.out.newB hb hg hge); clear HP; have HP := HPn; clear HPn; clear hge hg hb) | ((with_reducible refine gate_store (t := 25) (p := 9) rfl ?_); refine ev_store rfl 25 (.tmp 9) (.tmp 33) rfl rfl _ rfl (cells := cc.toArray) rfl (HP.out.blk 0 rfl) (by rw [List.size_toArray, HL.out.1]; kernel_rfl) (show (c25 s0).toArray.size = cc.toArray.size from by rw [List.size_toArray, List.size_toArray, HL.out.1, c25_len s0 rfl]) HL.out.2.1 ?_; intro w7 hg hgr; have HPn := Aside0.mk (HP.out.setB 0 rfl hgr hg); clear HP; have HP := HPn; clear HPn; clear hg hgr; have hcn := cell_in (HP.out.blk 0 rfl) 0 HL.out.2.2; have hcs_ := cell_in (HP.out.blk 4 rfl) 0 HN.out))
          refine (CW.out 1 _ _ HP.out).mono ?_; rintro e w8 ⟨rfl, v, hpn⟩
          clear HP CW
          have HP := Aside0.mk (Hp.dropN [_, _, _, _, _] (show Hp w0 w8 (_ :: _ :: _ :: _ :: _ :: Rs.set i (rRef w0.heap.size g (writeR R 1 X v) ex)) from hpn))
          clear hpn
          rw [← (HWE.out 1).1]
          have HSW := Aside0.mk ((HWE.out 1).2 v)
          have HFL := Aside0.mk (firm_len_write R 1 X v)
          obtain ⟨q, hq⟩ : ∃ z, writeE S 1 X = z := ⟨_, rfl⟩
          rw [hq] at HEE ⊢
          clear hq
          by_cases hq0 : q = 0
          rotate_left
          · have d0 : (q != 0) = true := bne_iff_ne.2 hq0
            have HE := Aside0.mk (show saveE S s = q ∧ saveS S s = writeS S 1 X from ⟨by rw [HEE.out.1, if_pos hq0], by rw [HEE.out.2, if_pos hq0]⟩)
            clear hq0
            go_wp2_with fail
            go_ret
            exact ⟨by rw [HE.out.1]; rfl, writeR R 1 X v, ex, by rw [HE.out.2]; exact HSW.out, by rw [HFL.out.1]; omega, HP.out⟩
          subst hq0
          have HE := Aside0.mk (show saveE S s = flushE (writeS S 1 X) ∧ saveS S s = flushS (writeS S 1 X) from ⟨by rw [HEE.out.1, if_neg (by decide)], by rw [HEE.out.2, if_neg (by decide)]⟩)
          have HSF := Aside0.mk (sim_flush HSW.out)
          have HFF := Aside0.mk (firm_len_flush (writeR R 1 X v))
          have CF := Aside0.mk (c_rflush HP.out i g (writeR R 1 X v) ex (set_get _ HIL.out) (by have h1 := HFL.out.2; have h2 := HLL.out.1; omega) (by have h1 := HFL.out.1; rw [h1]; have h2 := HLL.out.2; omega))
          rw [List.set_set, ← HSF.out.1] at CF
          go_wp2_with fail
          refine CF.out.mono ?_; rintro e w9 ⟨rfl, hpn⟩
          go_wp2_with fail
          go_ret
          exact ⟨by rw [HE.out.1]; rfl, flushR (writeR R 1 X v), ex, by rw [HE.out.2]; exact HSF.out.2, by have h1 := HFF.out.1; have h2 := HFL.out.1; have h3 := HFL.out.2; rw [h2] at h1; omega, hpn⟩
        · have d0 : (B == 0) = false := beq_eq_false_iff_ne.2 hB0
          have HEE := Aside0.mk (HEL.out 0 (by rw [HOD.out, if_neg hB0]))
          clear hge hlate hB0
          go_wp2_with (first | ((with_reducible refine gate_dst (N := 9) rfl ?_); refine ev_alloc rfl 25 rfl (.agg (c25 s0).toArray) (by kernel_rfl) ?_; intro g_c w6 hge hg hb; have HPn := Aside0.mk (HP.out.newB hb hg hge); clear HP; have HP := HPn; clear HPn; clear hge hg hb) | ((with_reducible refine gate_store (t := 25) (p := 9) rfl ?_); refine ev_store rfl 25 (.tmp 9) (.tmp 33) rfl rfl _ rfl (cells := cc.toArray) rfl (HP.out.blk 0 rfl) (by rw [List.size_toArray, HL.out.1]; kernel_rfl) (show (c25 s0).toArray.size = cc.toArray.size from by rw [List.size_toArray, List.size_toArray, HL.out.1, c25_len s0 rfl]) HL.out.2.1 ?_; intro w7 hg hgr; have HPn := Aside0.mk (HP.out.setB 0 rfl hgr hg); clear HP; have HP := HPn; clear HPn; clear hg hgr; have hcn := cell_in (HP.out.blk 0 rfl) 0 HL.out.2.2; have hcs_ := cell_in (HP.out.blk 4 rfl) 0 HN.out))
          refine (CW.out 0 _ _ HP.out).mono ?_; rintro e w8 ⟨rfl, v, hpn⟩
          clear HP CW
          have HP := Aside0.mk (Hp.dropN [_, _, _, _, _] (show Hp w0 w8 (_ :: _ :: _ :: _ :: _ :: Rs.set i (rRef w0.heap.size g (writeR R 0 X v) ex)) from hpn))
          clear hpn
          rw [← (HWE.out 0).1]
          have HSW := Aside0.mk ((HWE.out 0).2 v)
          have HFL := Aside0.mk (firm_len_write R 0 X v)
          obtain ⟨q, hq⟩ : ∃ z, writeE S 0 X = z := ⟨_, rfl⟩
          rw [hq] at HEE ⊢
          clear hq
          by_cases hq0 : q = 0
          rotate_left
          · have d0 : (q != 0) = true := bne_iff_ne.2 hq0
            have HE := Aside0.mk (show saveE S s = q ∧ saveS S s = writeS S 0 X from ⟨by rw [HEE.out.1, if_pos hq0], by rw [HEE.out.2, if_pos hq0]⟩)
            clear hq0
            go_wp2_with fail
            go_ret
            exact ⟨by rw [HE.out.1]; rfl, writeR R 0 X v, ex, by rw [HE.out.2]; exact HSW.out, by rw [HFL.out.1]; omega, HP.out⟩
          subst hq0
          have HE := Aside0.mk (show saveE S s = flushE (writeS S 0 X) ∧ saveS S s = flushS (writeS S 0 X) from ⟨by rw [HEE.out.1, if_neg (by decide)], by rw [HEE.out.2, if_neg (by decide)]⟩)
          have HSF := Aside0.mk (sim_flush HSW.out)
          have HFF := Aside0.mk (firm_len_flush (writeR R 0 X v))
          have CF := Aside0.mk (c_rflush HP.out i g (writeR R 0 X v) ex (set_get _ HIL.out) (by have h1 := HFL.out.2; have h2 := HLL.out.1; omega) (by have h1 := HFL.out.1; rw [h1]; have h2 := HLL.out.2; omega))
          rw [List.set_set, ← HSF.out.1] at CF
          go_wp2_with fail
          refine CF.out.mono ?_; rintro e w9 ⟨rfl, hpn⟩
          go_wp2_with fail
          go_ret
          exact ⟨by rw [HE.out.1]; rfl, flushR (writeR R 0 X v), ex, by rw [HE.out.2]; exact HSF.out.2, by have h1 := HFF.out.1; have h2 := HFL.out.1; have h3 := HFL.out.2; rw [h2] at h1; omega, hpn⟩
    · have dg : decide (B ≥ 0) = false := decide_eq_false hge
      have d0 : (B == 0) = false := beq_eq_false_iff_ne.2 (by omega)
      have HEE := Aside0.mk (HEX.out.2 (by rw [HLD.out, decide_eq_false hge]; rfl) 0 (by rw [HOD.out, if_neg (by omega)]))
      clear hge
      go_wp2_with (first | ((with_reducible refine gate_dst (N := 9) rfl ?_); refine ev_alloc rfl 25 rfl (.agg (c25 s0).toArray) (by kernel_rfl) ?_; intro g_c w6 hge hg hb; have HPn := Aside0.mk (HP.out.newB hb hg hge); clear HP; have HP := HPn; clear HPn; clear hge hg hb) | ((with_reducible refine gate_store (t := 25) (p := 9) rfl ?_); refine ev_store rfl 25 (.tmp 9) (.tmp 33) rfl rfl _ rfl (cells := cc.toArray) rfl (HP.out.blk 0 rfl) (by rw [List.size_toArray, HL.out.1]; kernel_rfl) (show (c25 s0).toArray.size = cc.toArray.size from by rw [List.size_toArray, List.size_toArray, HL.out.1, c25_len s0 rfl]) HL.out.2.1 ?_; intro w7 hg hgr; have HPn := Aside0.mk (HP.out.setB 0 rfl hgr hg); clear HP; have HP := HPn; clear HPn; clear hg hgr; have hcn := cell_in (HP.out.blk 0 rfl) 0 HL.out.2.2; have hcs_ := cell_in (HP.out.blk 4 rfl) 0 HN.out))
      refine (CW.out 0 _ _ HP.out).mono ?_; rintro e w8 ⟨rfl, v, hpn⟩
      clear HP CW
      have HP := Aside0.mk (Hp.dropN [_, _, _, _, _] (show Hp w0 w8 (_ :: _ :: _ :: _ :: _ :: Rs.set i (rRef w0.heap.size g (writeR R 0 X v) ex)) from hpn))
      clear hpn
      rw [← (HWE.out 0).1]
      have HSW := Aside0.mk ((HWE.out 0).2 v)
      have HFL := Aside0.mk (firm_len_write R 0 X v)
      obtain ⟨q, hq⟩ : ∃ z, writeE S 0 X = z := ⟨_, rfl⟩
      rw [hq] at HEE ⊢
      clear hq
      by_cases hq0 : q = 0
      rotate_left
      · have d0 : (q != 0) = true := bne_iff_ne.2 hq0
        have HE := Aside0.mk (show saveE S s = q ∧ saveS S s = writeS S 0 X from ⟨by rw [HEE.out.1, if_pos hq0], by rw [HEE.out.2, if_pos hq0]⟩)
        clear hq0
        go_wp2_with fail
        go_ret
        exact ⟨by rw [HE.out.1]; rfl, writeR R 0 X v, ex, by rw [HE.out.2]; exact HSW.out, by rw [HFL.out.1]; omega, HP.out⟩
      subst hq0
      have HE := Aside0.mk (show saveE S s = flushE (writeS S 0 X) ∧ saveS S s = flushS (writeS S 0 X) from ⟨by rw [HEE.out.1, if_neg (by decide)], by rw [HEE.out.2, if_neg (by decide)]⟩)
      have HSF := Aside0.mk (sim_flush HSW.out)
      have HFF := Aside0.mk (firm_len_flush (writeR R 0 X v))
      have CF := Aside0.mk (c_rflush HP.out i g (writeR R 0 X v) ex (set_get _ HIL.out) (by have h1 := HFL.out.2; have h2 := HLL.out.1; omega) (by have h1 := HFL.out.1; rw [h1]; have h2 := HLL.out.2; omega))
      rw [List.set_set, ← HSF.out.1] at CF
      go_wp2_with fail
      refine CF.out.mono ?_; rintro e w9 ⟨rfl, hpn⟩
      go_wp2_with fail
      go_ret
      exact ⟨by rw [HE.out.1]; rfl, flushR (writeR R 0 X v), ex, by rw [HE.out.2]; exact HSF.out.2, by have h1 := HFF.out.1; have h2 := HFL.out.1; have h3 := HFL.out.2; rw [h2] at h1; omega, hpn⟩
end Go.Proofs.Ytgflghnbpbiakaa.Su
namespace Go.Proofs.Ytgflghnbpbiakaa.Su
open Go.Proofs.Ytgflghnbpbiakaa.H hiding C_ints cellL cellN ev_copy ev_store_mid frozC i64k run_cut_all run_cut_arr run_cut_to setL set_self
open Go.RowKit Go.Proofs.Ytgflghnbpbiakaa.XH Go.Proofs.YtgflghnbpbiakaaW.PrintWords Go.Proofs.YtgflghnbpbiakaaW.PrintLast Go.Proofs.YtgflghnbpbiakaaW.PrintMore Go.Proofs.YtgflghnbpbiakaaXe Go.Proofs.YtgflghnbpbiakaaXs
set_option linter.unusedVariables false
set_option linter.unusedSimpArgs false
attribute [local go_sem ↓] Go.wp_at_zero Go.wp_at_succ
attribute [local go_sem] valUpon
open Go.Proofs.Ytgflghnbpbiakaa.D hiding c_len c_new c_write
def by23 (x : XH.S23) : List Int := [x.f0, x.f1, x.f2, x.f3, x.f4, x.f5, x.f6, x.f7, x.f8, x.f9, x.f10, x.f11, x.f12, x.f13, x.f14, x.f15, x.f16, x.f17, x.f18, x.f19, x.f20, x.f21, x.f22, x.f23, x.f24, x.f25, x.f26, x.f27, x.f28, x.f29, x.f30, x.f31]
theorem by23_len (x : XH.S23) : (by23 x).length = 32 := rfl
def spOf (x : XH.S25) : SP := ⟨x.f0, by23 x.f1, x.f2, x.f3⟩
def acV (x : XH.S64) (A3 : Option Addr) (c3 : Nat) (A4 : Option Addr) (c4 : Nat) : List Value := .int .i64 x.f0 :: .int .i64 x.f1 :: (c25 (spOf x.f2) ++ [.slice A3 x.f3.length c3, .slice A4 x.f4.length c4])
def zA : List Value := .int .i64 0 :: .int .i64 0 :: (c25 s0 ++ [.slice none 0 0, .slice none 0 0])
def okA (x : XH.S64) : Prop := x.f3.length ≤ 100 ∧ x.f4.length ≤ 100
structure wfA (x : XH.S64) : Prop where
  n : x.f1 ≤ 9223372036854775807
  root : Bytes (by23 x.f2.f1)
  b : Bytes x.f4
theorem act_range {w : World} {b o n : Nat} {l : List XH.S64} (h : XH.k64.C w (some ⟨b, o, none⟩) n l) {j : Nat} {x : XH.S64} (hj : l[j]? = some x) : ∃ A3 c3 A4 c4, w.rangeAt b (o + j * 39) (acV x A3 c3 A4 c4) ∧ x.f3.length ≤ c3 ∧ Kd.bool.C w A3 x.f3.length x.f3 ∧ x.f4.length ≤ c4 ∧ (Kd.int .u8).C w A4 x.f4.length x.f4 := by
  obtain ⟨cs, hK, hr⟩ := range_K h hj
  obtain ⟨A3, c3, A4, c4, rfl, l3, g3, l4, g4⟩ := XH.k64_open hK
  exact ⟨A3, c3, A4, c4, hr, l3, g3, l4, g4⟩
theorem acV_len (x : XH.S64) (A3 : Option Addr) (c3 : Nat) (A4 : Option Addr) (c4 : Nat) : (acV x A3 c3 A4 c4).length = 39 := by
  unfold acV
  rw [List.length_cons, List.length_cons, List.length_append, c25_len _ (by23_len _)]
  rfl
theorem acV_one (x : XH.S64) (A3 : Option Addr) (c3 : Nat) (A4 : Option Addr) (c4 : Nat) : (acV x A3 c3 A4 c4).toArray.all (·.oneCell') = true := by
  have h := c25_one (spOf x.f2)
  rw [List.all_toArray] at h ⊢
  unfold acV
  rw [List.all_cons, List.all_cons, List.all_append, h]
  rfl
theorem acV_s (x : XH.S64) (A3 : Option Addr) (c3 : Nat) (A4 : Option Addr) (c4 : Nat) {w : World} {g : Nat} {t : TypeId} {fr : Nat × Nat} (h : w.heap[g]? = some (.cells (acV x A3 c3 A4 c4).toArray t fr)) : w.rangeAt g 2 (c25 (spOf x.f2)) := fun j v hv => by
  have h1 := rangeB h (2 + j) v ?_
  · rw [Nat.zero_add] at h1; exact h1
  · unfold acV
    rw [show 2 + j = j + 2 by omega, List.getElem?_cons_succ, List.getElem?_cons_succ, List.getElem?_append_left (List.getElem?_eq_some_iff.1 hv).1]
    exact hv
theorem acV_37 (x : XH.S64) (A3 : Option Addr) (c3 : Nat) (A4 : Option Addr) (c4 : Nat) : (acV x A3 c3 A4 c4)[37]? = some (.slice A3 x.f3.length c3) := by
  unfold acV
  rw [List.getElem?_cons_succ, List.getElem?_cons_succ, List.getElem?_append_right (by rw [c25_len _ (by23_len _)]; decide), c25_len _ (by23_len _)]
  rfl
theorem acV_38 (x : XH.S64) (A3 : Option Addr) (c3 : Nat) (A4 : Option Addr) (c4 : Nat) : (acV x A3 c3 A4 c4)[38]? = some (.slice A4 x.f4.length c4) := by
  unfold acV
  rw [List.getElem?_cons_succ, List.getElem?_cons_succ, List.getElem?_append_right (by rw [c25_len _ (by23_len _)]; decide), c25_len _ (by23_len _)]
  rfl
noncomputable def LDA (v : Value) : Sem Value := Instr.loadAt 64 v
theorem lda (v : Value) : Instr.loadAt 64 v = LDA v := rfl
theorem LDA.of {w : World} {b o : Nat} {cs : List Value} (h : w.rangeAt b o cs) (hl : cs.length = 39) : (LDA (.pointer (some ⟨b, o, none⟩))).run Try.prog w = .ok (.agg cs.toArray) w :=
  run_loadAt_mid w b o 64 cs _ h Try.underlying64 rfl (by rw [hl]; kernel_rfl)
theorem large_l0 (l : List XH.S64) (hl : l.length ≤ 9223372036854775807) : ∀ (d i : Nat), i + d = 42 → (∀ x ∈ l.take i, okA x) → ∃ k r, retconlaw13_large.l0 k l (i : Int) = some r ∧ (r = false → l.length ≤ 40 ∧ ∀ x ∈ l, okA x) := by
  intro d
  induction d with
  | zero =>
    intro i hi hok
    refine ⟨2, decide ((l.length : Int) > 40), ?_, fun h => ?_⟩
    · obtain rfl : i = 42 := by omega
      unfold retconlaw13_large.l0
      split
      · rw [show decide (((42 : Nat) : Int) < 41) = false from by decide]
        simp [retconlaw13_large.j1]
      · simp [retconlaw13_large.j1]
    · have h1 : l.length ≤ 40 := by have h9 := of_decide_eq_false h; omega
      exact ⟨h1, fun x hx => hok x (by rw [List.take_of_length_le (by omega)]; exact hx)⟩
  | succ d ih =>
    intro i hi hok
    by_cases c1 : i < l.length
    · by_cases c2 : i < 41
      · have hrd : rd_T64 l (i : Int) = l[i] := by unfold rd_T64; rw [Int.toNat_natCast, List.getD_eq_getElem?_getD, List.getElem?_eq_getElem c1]; rfl
        have hd : decide ((i : Int) < 41) = true := decide_eq_true (by omega)
        by_cases c3 : (l[i].f3.length : Int) > 100
        · refine ⟨3, true, ?_, fun h => by cases h⟩
          unfold retconlaw13_large.l0
          rw [if_pos (by omega), hd]
          unfold retconlaw13_large.j1
          rw [if_pos rfl, if_pos (by omega), if_pos (by omega), hrd, if_pos c3]
          simp [retconlaw13_large.j2]
        · by_cases c4 : (l[i].f4.length : Int) > 100
          · refine ⟨3, true, ?_, fun h => by cases h⟩
            unfold retconlaw13_large.l0
            rw [if_pos (by omega), hd]
            unfold retconlaw13_large.j1
            rw [if_pos rfl, if_pos (by omega), if_pos (by omega), hrd, if_neg c3, decide_eq_true c4]
            simp [retconlaw13_large.j2]
          · obtain ⟨k, r, h1, h2⟩ := ih (i + 1) (by omega) (fun x hx => by
              rw [List.take_succ_eq_append_getElem c1] at hx
              rcases List.mem_append.1 hx with h | h
              · exact hok x h
              · rw [List.mem_singleton.1 h]; exact ⟨by omega, by omega⟩)
            refine ⟨k + 3, r, ?_, h2⟩
            unfold retconlaw13_large.l0
            rw [if_pos (by omega), hd]
            unfold retconlaw13_large.j1
            rw [if_pos rfl, if_pos (by omega), if_pos (by omega), hrd, if_neg c3, decide_eq_false c4]
            unfold retconlaw13_large.j2
            rw [if_neg (by decide), show wrap64 ((i : Int) + 1) = ((i + 1 : Nat) : Int) from by unfold wrap64; omega]
            exact h1
      · refine ⟨2, decide ((l.length : Int) > 40), ?_, fun h => ?_⟩
        · unfold retconlaw13_large.l0
          rw [if_pos (by omega), decide_eq_false (by omega)]
          simp [retconlaw13_large.j1]
        · have h1 : l.length ≤ 40 := by have h9 := of_decide_eq_false h; omega
          omega
    · refine ⟨2, decide ((l.length : Int) > 40), ?_, fun h => ?_⟩
      · unfold retconlaw13_large.l0
        rw [if_neg (by omega)]
        simp [retconlaw13_large.j1]
      · have h1 : l.length ≤ 40 := by have h9 := of_decide_eq_false h; omega
        exact ⟨h1, fun x hx => hok x (by rw [List.take_of_length_le (by omega)]; exact hx)⟩
theorem large_tells (l : List XH.S64) (hl : l.length ≤ 9223372036854775807) : ∃ k r, retconlaw13_large.f k l = some r ∧ (r = false → l.length ≤ 40 ∧ ∀ x ∈ l, okA x) := large_l0 l hl 42 0 rfl (fun x hx => by simp at hx)
structure Inv (S : DS) (R : RS) (j : Nat) : Prop where
  sim : Sim S R
  ok : okD S
  l : S.l.length ≤ j
  f : R.firm.length ≤ 50 * j
  j : j ≤ 40
theorem Inv.soft {S : DS} {R : RS} {j : Nat} (h : Inv S R j) : R.soft.length = S.l.length := by rw [h.sim.l]; simp [nbP]
theorem inv_new (n : Int) : Inv (newS n) (newR n) 0 := ⟨sim_new n, okD_new n, Nat.le_refl 0, Nat.le_refl 0, by decide⟩
theorem inv_same {S : DS} {R : RS} {j : Nat} (h : Inv S R j) (hj : j < 40) : Inv S R (j + 1) := ⟨h.sim, h.ok, by have := h.l; omega, by have := h.f; omega, hj⟩
theorem inv_write {S : DS} {R : RS} {j : Nat} (h : Inv S R j) (hj : j < 40) (n : Int) (b : List Int) (hB : Bytes b) (v : Value) : writeE S n b = writeRE R n b ∧ Inv (writeS S n b) (writeR R n b v) (j + 1) := by
  have h1 := sim_write h.sim n b
  have h2 := okD_write h.ok (by have := h.l; omega) n b hB
  have h3 := firm_len_write R n b v
  exact ⟨h1.1, h1.2 v, h2.1, by have := h.l; have := h2.2; omega, by rw [h3.1]; have := h.f; omega, hj⟩
theorem inv_fuse {S : DS} {R : RS} {j : Nat} (h : Inv S R j) (hj : j < 40) (n : Int) (hn : n ≤ 9223372036854775807) : fuseE n = fuseRE n ∧ Inv (fuseS S n) (fuseR R n) (j + 1) := by
  have h1 := sim_fuse h.sim n hn
  have h2 := okD_fuse h.ok n
  refine ⟨h1.1, h1.2, h2.1, by have := h.l; have := h2.2; omega, ?_, hj⟩
  have := h.f
  unfold fuseR
  split <;> (try dsimp only) <;> omega
theorem inv_crash {S : DS} {R R' : RS} {j : Nat} (h : Inv S R j) (hj : j < 40) (keep : List Bool) (t : Int) (hs : Sim (crashS S keep t) R') (hl : R'.firm.length ≤ R.firm.length + R.soft.length) : Inv (crashS S keep t) R' (j + 1) := by
  have h2 := okD_crash h.ok keep t
  exact ⟨hs, h2.1, by have := h.l; have := h2.2; omega, by have := h.f; have := h.soft; have := h.l; omega, hj⟩
theorem inv_save {S : DS} {R R' : RS} {j : Nat} (h : Inv S R j) (hj : j < 40) (s : SP) (hl : s.root.length = 32) (hB : Bytes s.root) (hs : Sim (saveS S s) R') (hf : R'.firm.length ≤ R.firm.length + R.soft.length + 1) : Inv (saveS S s) R' (j + 1) := by
  have h2 : okD (saveS S s) ∧ (saveS S s).l.length ≤ S.l.length + 1 := by
    have hw := okD_write h.ok (by have := h.l; omega) (otherD S) (packS s) (packS_bytes s hB)
    have hfl := okD_flush hw.1
    unfold saveS
    split
    · exact ⟨h.ok, by omega⟩
    · split
      · exact ⟨h.ok, by omega⟩
      · split
        · exact ⟨h.ok, by omega⟩
        · split
          · exact hw
          · exact ⟨hfl.1, by have := hfl.2; have := hw.2; omega⟩
  exact ⟨hs, h2.1, by have := h.l; have := h2.2; omega, by have := h.f; have := h.soft; have := h.l; omega, hj⟩
theorem c_crashD {w0 w : World} {Rs : List Res} (HP : Hp w0 w Rs) (i g : Nat) (S : DS) (hi : Rs[i]? = some (rDisk w0.heap.size g S)) (Ak : Option Addr) (ck : Nat) (keep : List Bool) (hkl : keep.length ≤ 9223372036854775807) (hB : Rd Kd.bool w0 Rs i Ak keep.length keep) (torn : Int) (hl : S.l.length ≤ 1000000) :
    Calls Try.prog 32 #[.pointer (some ⟨g, 0, none⟩), .slice Ak keep.length ck, .int .i64 torn] w fun e w' => e = .returned (.int .i64 (crashE torn)) ∧ Hp w0 w' (Rs.set i (rDisk w0.heap.size g (crashS S keep torn))) := by
  unfold crashE crashS
  by_cases h : torn < 0 ∨ 64 ≤ torn
  · rw [if_pos h, if_pos h, set_self hi]
    exact (c_crashE HP i g S hi _ torn h).mono fun e w' ⟨h1, h2⟩ => ⟨h1, by rw [h2]; exact HP⟩
  · rw [if_neg h, if_neg h]
    exact c_crash HP i g S hi Ak ck keep hkl hB torn (by omega) hl
theorem c_rcrashD {w0 w : World} {Rs : List Res} (HP : Hp w0 w Rs) (i g : Nat) (R : RS) (ex : List Pt) (hi : Rs[i]? = some (rRef w0.heap.size g R ex)) (S : DS) (j : Nat) (hI : Inv S R j) (hj : j < 40) (Ak : Option Addr) (ck : Nat) (keep : List Bool) (hkl : keep.length ≤ 9223372036854775807) (hB : ∀ w' : World, Below w0.heap.size w0 w' → Kd.C Kd.bool w' Ak keep.length keep) (torn : Int) :
    Calls Try.prog 33 #[.pointer (some ⟨g, 0, none⟩), .slice Ak keep.length ck, .int .i64 torn] w fun e w' => e = .returned (.int .i64 (crashE torn)) ∧ ∃ R' ex', Inv (crashS S keep torn) R' (j + 1) ∧ Hp w0 w' (Rs.set i (rRef w0.heap.size g R' ex')) := by
  by_cases h : torn < 0 ∨ 64 ≤ torn
  · refine (c_rcrashE HP i g R ex hi _ torn (by omega)).mono ?_
    rintro e w' ⟨h1, rfl⟩
    refine ⟨by unfold crashE; rw [if_pos h]; exact h1, R, ex, inv_crash hI hj keep torn ?_ (by omega), by rw [set_self hi]; exact HP⟩
    unfold crashS
    rw [if_pos h]
    exact hI.sim
  · refine (c_rcrash HP i g R ex hi (by have := hI.soft; have := hI.l; omega) (by have := hI.f; have := hI.j; omega) hI.sim.uniq Ak ck keep hkl hB torn (by omega)).mono ?_
    rintro e w' ⟨h1, F, ex2, hu, hF, hf, hp⟩
    exact ⟨by unfold crashE; rw [if_neg h]; exact h1, _, ex2, inv_crash hI hj keep torn (sim_crash hI.sim keep torn h F hu hf) hF, hp⟩
end Go.Proofs.Ytgflghnbpbiakaa.Su
