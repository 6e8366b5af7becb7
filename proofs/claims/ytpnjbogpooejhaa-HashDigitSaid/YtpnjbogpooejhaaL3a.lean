import Derived.Test.YtpnjbogpooejhaaL2
namespace Go.Proofs.Ytpnjbogpooejhaa.H
open Go.RowKit Go.Proofs.Ytpnjbogpooejhaa.XH Go.Proofs.YtpnjbogpooejhaaW.PrintWords Go.Proofs.YtpnjbogpooejhaaW.PrintLast Go.Proofs.YtpnjbogpooejhaaW.PrintMore Go.Proofs.YtpnjbogpooejhaaXe Go.Proofs.YtpnjbogpooejhaaXs
set_option linter.unusedVariables false
set_option linter.unusedSimpArgs false
attribute [local go_sem ↓] Go.wp_at_zero Go.wp_at_succ
attribute [local go_sem] valUpon
/-- texts of half bytes -/
def nibs (id : List Int) : List Int := (List.range 64).map (nibI id)
def Nib (ns : List Int) : Prop := ns.length = 64 ∧ ∀ i : Nat, 0 ≤ rd ns (i : Int) ∧ rd ns (i : Int) < 16
def unnib (ns : List Int) : List Int := (List.range 32).map fun j => rd ns ((2 * j : Nat) : Int) * 16 + rd ns ((2 * j + 1 : Nat) : Int)
def txN (ns : List Int) : ByteArray := strOfNums (ns.map dgI)
theorem txN_nibs (id : List Int) : txN (nibs id) = strOfNums (txI id) := by unfold txN nibs txI; rw [List.map_map]; rfl
theorem rd_map_range (f : Nat → Int) (n j : Nat) (h : j < n) : rd ((List.range n).map f) (j : Int) = f j := by simp [Go.Proofs.YtpnjbogpooejhaaW.PrintWords.rd, h]
theorem rd_out {l : List Int} {j : Nat} (h : l.length ≤ j) : rd l (j : Int) = 0 := by simp [Go.Proofs.YtpnjbogpooejhaaW.PrintWords.rd, List.getElem?_eq_none h]
theorem rd_ext {l m : List Int} (h : l.length = m.length) (hq : ∀ q : Nat, q < l.length → rd l q = rd m q) : l = m := by
  refine List.ext_getElem h fun q h1 h2 => ?_
  have := hq q h1
  simpa [Go.Proofs.YtpnjbogpooejhaaW.PrintWords.rd, h1, h2] using this
theorem rd_set (l : List Int) (q j : Nat) (x : Int) (h : q < l.length) : rd (l.set q x) (j : Int) = if q = j then x else rd l (j : Int) := by
  by_cases e : q = j
  · subst e; simp [Go.Proofs.YtpnjbogpooejhaaW.PrintWords.rd, h]
  · simp [Go.Proofs.YtpnjbogpooejhaaW.PrintWords.rd, e]
theorem pl_dg (n : Int) (h0 : 0 ≤ n) (h1 : n < 16) : plI (dgI n) = n := by
  have h16 : ∀ i : Fin 16, plI (dgI (i.val : Int)) = i.val := by decide +kernel
  have := h16 ⟨n.toNat, by omega⟩
  rwa [show (((⟨n.toNat, by omega⟩ : Fin 16).val : Nat) : Int) = n by show ((n.toNat : Nat) : Int) = n; omega] at this
theorem dg_pl (c : Int) (h0 : 0 ≤ c) (h1 : c < 256) (h : plI c ≠ 16) : dgI (plI c) = c := by
  have h16 : ∀ i : Fin 256, plI (i.val : Int) ≠ 16 → dgI (plI (i.val : Int)) = i.val := by decide +kernel
  have := h16 ⟨c.toNat, by omega⟩
  rw [show (((⟨c.toNat, by omega⟩ : Fin 256).val : Nat) : Int) = c by show ((c.toNat : Nat) : Int) = c; omega] at this
  exact this h
theorem bt_str (xs : List Int) (hb : ∀ x ∈ xs, 0 ≤ x ∧ x < 256) (i : Nat) (h : i < xs.length) : bt (strOfNums xs) (i : Int) = rd xs (i : Int) := by
  have h1 : i < (strOfNums xs).size := by rw [strOfNums_size]; exact h
  have h2 := hb xs[i] (List.getElem_mem h)
  simp only [bt, Int.toNat_natCast, h1, dif_pos]
  have h3 : (strOfNums xs)[i] = UInt8.ofNat xs[i].toNat := by
    simp [strOfNums, ByteArray.getElem_eq_getElem_data]
  rw [h3]
  simp only [UInt8.toNat_ofNat']
  simp [Go.Proofs.YtpnjbogpooejhaaW.PrintWords.rd, h]
  omega
theorem dgs_byte (ns : List Int) : ∀ x ∈ ns.map dgI, 0 ≤ x ∧ x < 256 := by
  intro x hx
  obtain ⟨n, _, rfl⟩ := List.mem_map.1 hx
  have := dg_byte n
  omega
theorem bt_txN (ns : List Int) (i : Nat) (h : i < ns.length) : bt (txN ns) (i : Int) = dgI (rd ns (i : Int)) := by
  unfold txN
  rw [bt_str _ (dgs_byte ns) i (by simpa using h)]
  simp [Go.Proofs.YtpnjbogpooejhaaW.PrintWords.rd, h]
theorem txN_size (ns : List Int) (h : ns.length = 64) : (txN ns).size = 64 := by unfold txN; rw [strOfNums_size, List.length_map, h]
theorem parGo_bad (s : ByteArray) (q : Nat) (hq : plI (bt s q) = 16) : ∀ (k i : Nat), i ≤ q → q < i + k → (∀ j : Nat, i ≤ j → j < q → plI (bt s j) ≠ 16) → parGo s k i = ⟨z32, 4, q⟩
  | 0, i, h1, h2, _ => by omega
  | k + 1, i, h1, h2, h3 => by
    unfold parGo
    by_cases e : i = q
    · subst e; rw [if_pos hq]
    · rw [if_neg (h3 i (Nat.le_refl _) (by omega))]
      exact parGo_bad s q hq k (i + 1) (by omega) (by omega) (fun j h4 h5 => h3 j (by omega) h5)
theorem parGo_good (s : ByteArray) (hs : s.size = 64) : ∀ (k i : Nat), i + k = 64 → (∀ j : Nat, i ≤ j → j < 64 → plI (bt s j) ≠ 16) → parGo s k i = ⟨pidI s 64, 0, 0⟩
  | 0, i, h1, _ => by unfold parGo; rw [if_pos hs, show i = 64 by omega]
  | k + 1, i, h1, h3 => by
    unfold parGo
    rw [if_neg (h3 i (Nat.le_refl _) (by omega))]
    exact parGo_good s hs k (i + 1) (by omega) (fun j h4 h5 => h3 j (by omega) h5)
theorem pid_nib (ns : List Int) (hn : Nib ns) : ∀ i, i ≤ 64 → ∀ j : Nat, j < 32 → rd (pidI (txN ns) i) (j : Int) = if 2 * j + 1 < i then rd ns ((2 * j : Nat) : Int) * 16 + rd ns ((2 * j + 1 : Nat) : Int) else if 2 * j + 1 = i then rd ns ((2 * j : Nat) : Int) else 0
  | 0, _, j, hj => by
    rw [if_neg (by omega), if_neg (by omega)]
    show rd (List.replicate 32 0) (j : Int) = 0
    unfold Go.Proofs.YtpnjbogpooejhaaW.PrintWords.rd
    rw [Int.toNat_natCast, List.getD_eq_getElem?_getD, List.getElem?_replicate]
    split <;> rfl
  | i + 1, hi, j, hj => by
    have ih := pid_nib ns hn i (by omega)
    have hbt := bt_txN ns i (by rw [hn.1]; omega)
    have hr := hn.2 i
    rw [pidI, if_pos (by omega), rd_set _ _ _ _ (by rw [pidI_len]; omega), hbt, pl_dg _ hr.1 hr.2]
    by_cases e : i / 2 = j
    · rw [if_pos e, e, ih j hj]
      by_cases ev : i % 2 = 0
      · rw [if_neg (by omega), if_neg (by omega), if_neg (by omega), if_pos (by omega), show 2 * j = i by omega]
        omega
      · rw [if_neg (by omega), if_pos (by omega), if_pos (by omega)]
        have h0 := hn.2 (2 * j)
        have e2 : 2 * j + 1 = i := by omega
        rw [← e2] at hr ⊢
        omega
    · rw [if_neg e, ih j hj]
      by_cases c1 : 2 * j + 1 < i
      · rw [if_pos c1, if_pos (by omega)]
      · rw [if_neg c1, if_neg (by omega), if_neg (by omega), if_neg (by omega)]
theorem pid_unnib (ns : List Int) (hn : Nib ns) : pidI (txN ns) 64 = unnib ns := by
  refine rd_ext ((pidI_len _ _).trans (by simp [unnib])) fun q hq => ?_
  have hq' : q < 32 := by rwa [pidI_len] at hq
  rw [pid_nib ns hn 64 (Nat.le_refl _) q hq', if_pos (by omega), unnib, rd_map_range _ 32 q hq']
theorem par_nib (ns : List Int) (hn : Nib ns) : parS (txN ns) = ⟨unnib ns, 0, 0⟩ := by
  unfold parS
  rw [txN_size ns hn.1, parGo_good _ (txN_size ns hn.1) 64 0 rfl (fun j _ hj => by
    have hr := hn.2 j
    rw [bt_txN ns j (by rw [hn.1]; exact hj), pl_dg _ hr.1 hr.2]; omega), pid_unnib ns hn]
theorem nibs_nib (id : List Int) (hb : ∀ x ∈ id, 0 ≤ x ∧ x < 256) : Nib (nibs id) := by
  refine ⟨by simp [nibs], fun i => ?_⟩
  by_cases h : i < 64
  · rw [nibs, rd_map_range _ 64 i h]
    have := rd_byte hb ((i / 2 : Nat) : Int)
    unfold nibI; split <;> omega
  · rw [rd_out (by simp [nibs]; omega)]; omega
theorem unnib_nibs (id : List Int) (hl : id.length = 32) (hb : ∀ x ∈ id, 0 ≤ x ∧ x < 256) : unnib (nibs id) = id := by
  refine rd_ext (by simp [unnib, hl]) fun q hq => ?_
  have hq' : q < 32 := by simpa [unnib] using hq
  rw [unnib, rd_map_range _ 32 q hq', nibs, rd_map_range _ 64 _ (by omega), rd_map_range _ 64 _ (by omega)]
  unfold nibI
  rw [if_pos (by omega), if_neg (by omega), show 2 * q / 2 = q by omega, show (2 * q + 1) / 2 = q by omega]
  omega
theorem nibs_unnib (ns : List Int) (hn : Nib ns) : nibs (unnib ns) = ns := by
  refine rd_ext (by rw [hn.1]; simp [nibs]) fun q hq => ?_
  have hq' : q < 64 := by simpa [nibs] using hq
  rw [nibs, rd_map_range _ 64 q hq']
  unfold nibI
  rw [unnib, rd_map_range _ 32 _ (by omega)]
  have h0 := hn.2 (2 * (q / 2))
  have h1 := hn.2 (2 * (q / 2) + 1)
  split
  · have e : 2 * (q / 2) = q := by omega
    rw [e] at h0 h1 ⊢
    omega
  · have e : 2 * (q / 2) + 1 = q := by omega
    rw [e] at h1 ⊢
    omega
theorem unnib_len (ns : List Int) : (unnib ns).length = 32 := by simp [unnib]
theorem unnib_byte (ns : List Int) (hn : Nib ns) : ∀ x ∈ unnib ns, 0 ≤ x ∧ x < 256 := by
  intro x hx
  obtain ⟨j, _, rfl⟩ := List.mem_map.1 hx
  have h0 := hn.2 (2 * j)
  have h1 := hn.2 (2 * j + 1)
  omega
theorem set_nib (ns : List Int) (hn : Nib ns) (q : Nat) (p : Int) (h0 : 0 ≤ p) (h1 : p < 16) : Nib (ns.set q p) := by
  refine ⟨by rw [List.length_set]; exact hn.1, fun i => ?_⟩
  by_cases hq : q < ns.length
  · rw [rd_set ns q i p hq]
    split
    · exact ⟨h0, h1⟩
    · exact hn.2 i
  · rw [List.set_eq_of_length_le (by omega)]; exact hn.2 i
/-- what becomes of an ID whose digit q is turned -/
theorem turned (id : List Int) (hl : id.length = 32) (hb : ∀ x ∈ id, 0 ≤ x ∧ x < 256) (q : Nat) (hq : q < 64) (c : Int) (hc0 : 0 ≤ c) (hc1 : c < 256) (hp : plI c ≠ 16) :
    ∃ y : List Int, y.length = 32 ∧ (∀ x ∈ y, 0 ≤ x ∧ x < 256) ∧ parS (strOfNums ((txI id).set q c)) = ⟨y, 0, 0⟩ ∧ strOfNums (txI y) = strOfNums ((txI id).set q c) ∧ ((strOfNums ((txI id).set q c)).toList = (strOfNums (txI id)).toList ↔ y = id) ∧ (∀ i : Nat, i ≠ q / 2 → rd y (i : Int) = rd id (i : Int)) ∧
      (q % 2 = 0 → rd y ((q / 2 : Nat) : Int) % 16 = rd id ((q / 2 : Nat) : Int) % 16) ∧ (q % 2 ≠ 0 → rd y ((q / 2 : Nat) : Int) / 16 = rd id ((q / 2 : Nat) : Int) / 16) := by
  have hpr := plI_range c
  have hn := nibs_nib id hb
  have hs := set_nib _ hn q (plI c) hpr.1 (by omega)
  have e1 : strOfNums ((txI id).set q c) = txN ((nibs id).set q (plI c)) := by
    unfold txN
    rw [List.map_set, dg_pl c hc0 hc1 hp]
    unfold nibs txI
    rw [List.map_map]
    rfl
  have hun : ∀ i : Nat, i < 32 → rd (unnib ((nibs id).set q (plI c))) (i : Int) = (if q = 2 * i then plI c else nibI id (2 * i)) * 16 + (if q = 2 * i + 1 then plI c else nibI id (2 * i + 1)) := fun i hi => by
    rw [unnib, rd_map_range _ 32 i hi, rd_set _ _ _ _ (by rw [hn.1]; exact hq), rd_set _ _ _ _ (by rw [hn.1]; exact hq), nibs, rd_map_range _ 64 _ (by omega), rd_map_range _ 64 _ (by omega)]
  have hni : ∀ i : Nat, nibI id (2 * i) = rd id (i : Int) / 16 ∧ nibI id (2 * i + 1) = rd id (i : Int) % 16 := fun i => by
    unfold nibI
    rw [if_pos (by omega), if_neg (by omega), show 2 * i / 2 = i by omega, show (2 * i + 1) / 2 = i by omega]
    exact ⟨rfl, rfl⟩
  refine ⟨unnib ((nibs id).set q (plI c)), unnib_len _, unnib_byte _ hs, by rw [e1]; exact par_nib _ hs, ?_, ?_, fun i hi => ?_, fun h => ?_, fun h => ?_⟩
  · rw [← txN_nibs, nibs_unnib _ hs, e1]
  · rw [e1, ← txN_nibs id]
    unfold txN
    rw [Lib.strOfNums_toList, Lib.strOfNums_toList, (less_bytes _ _ (by simp) (dgs_byte _) (dgs_byte _)).2]
    constructor
    · intro h
      have h2 : (nibs id).set q (plI c) = nibs id := rd_ext (by simp) fun j hj => by
        have hj' : j < 64 := by rw [List.length_set, hn.1] at hj; exact hj
        have h3 := congrArg (fun l => rd l (j : Int)) h
        have h4 : ∀ l : List Int, l.length = 64 → rd (l.map dgI) (j : Int) = dgI (rd l (j : Int)) := fun l hl => by simp [Go.Proofs.YtpnjbogpooejhaaW.PrintWords.rd, hl, hj']
        simp only [h4 _ hs.1, h4 _ hn.1] at h3
        exact (dg_inj _ _ (hs.2 j).1 (hs.2 j).2 (hn.2 j).1 (hn.2 j).2).1.1 h3
      rw [h2, unnib_nibs id hl hb]
    · intro h
      have h2 := nibs_unnib _ hs
      rw [h] at h2
      rw [← h2]
  · by_cases h32 : i < 32
    · rw [hun i h32, if_neg (by omega), if_neg (by omega), (hni i).1, (hni i).2]; omega
    · rw [rd_out (by rw [unnib_len]; omega), rd_out (by omega)]
  · rw [hun _ (by omega), if_pos (by omega), if_neg (by omega), (hni _).2]; omega
  · rw [hun _ (by omega), if_neg (by omega), if_pos (by omega), (hni _).1]
    have := rd_byte hb ((q / 2 : Nat) : Int)
    omega
theorem text_back (id : List Int) (hl : id.length = 32) (hb : ∀ x ∈ id, 0 ≤ x ∧ x < 256) : parS (strOfNums (txI id)) = ⟨id, 0, 0⟩ := by
  rw [← txN_nibs, par_nib _ (nibs_nib id hb), unnib_nibs id hl hb]
theorem bad_digit (id : List Int) (hb : ∀ x ∈ id, 0 ≤ x ∧ x < 256) (q : Nat) (hq : q < 64) (c : Int) (hc0 : 0 ≤ c) (hc1 : c < 256) (hp : plI c = 16) : parS (strOfNums ((txI id).set q c)) = ⟨z32, 4, q⟩ := by
  have hby : ∀ x ∈ (txI id).set q c, 0 ≤ x ∧ x < 256 := fun x hx => by
    rcases List.mem_or_eq_of_mem_set hx with h | h
    · exact tx_byte id x h
    · subst h; exact ⟨hc0, hc1⟩
  have hlen : ((txI id).set q c).length = 64 := by rw [List.length_set, txI_len]
  unfold parS
  rw [strOfNums_size, hlen]
  refine parGo_bad _ q ?_ 64 0 (Nat.zero_le _) (by omega) fun j _ hj => ?_
  · rw [bt_str _ hby q (by omega), rd_set _ _ _ _ (by rw [txI_len]; exact hq), if_pos rfl]; exact hp
  · rw [bt_str _ hby j (by omega), rd_set _ _ _ _ (by rw [txI_len]; exact hq), if_neg (by omega), txI, rd_map_range _ 64 j (by omega)]
    have := (nibs_nib id hb).2 j
    rw [nibs, rd_map_range _ 64 j (by omega)] at this
    rw [pl_dg _ this.1 this.2]; omega
end Go.Proofs.Ytpnjbogpooejhaa.H
