import Derived.Test.YtgippbgcmmjnbaaCt4
namespace Go.Proofs.Ytgippbgcmmjnbaa.Ct
open Go.RowKit Go.Proofs.Ytgippbgcmmjnbaa.XB Go.Proofs.Ytgippbgcmmjnbaa.Th Go.Proofs.YtgippbgcmmjnbaaW.PrintWords Go.Proofs.YtgippbgcmmjnbaaXe
set_option linter.unusedVariables false

/-! ### ascending lists -/
def Asc (l : List Int) : Prop := l.Pairwise (· < ·)
theorem Asc.ext : ∀ {l m : List Int}, Asc l → Asc m → (∀ a, a ∈ l ↔ a ∈ m) → l = m
  | [], [], _, _, _ => rfl
  | [], y :: m, _, _, h => by have := (h y).2 (by simp); simp at this
  | x :: l, [], _, _, h => by have := (h x).1 (by simp); simp at this
  | x :: l, y :: m, hl, hm, h => by
    have hl' := List.pairwise_cons.1 hl
    have hm' := List.pairwise_cons.1 hm
    have hxy : x = y := by
      have h1 := (h x).1 (by simp)
      have h2 := (h y).2 (by simp)
      rcases List.mem_cons.1 h1 with h1 | h1
      · exact h1
      · rcases List.mem_cons.1 h2 with h2 | h2
        · exact h2.symm
        · have := hm'.1 x h1; have := hl'.1 y h2; omega
    subst hxy
    have : l = m := Asc.ext hl'.2 hm'.2 fun a => by
      constructor
      · intro ha
        rcases List.mem_cons.1 ((h a).1 (List.mem_cons_of_mem _ ha)) with e | e
        · have := hl'.1 a ha; omega
        · exact e
      · intro ha
        rcases List.mem_cons.1 ((h a).2 (List.mem_cons_of_mem _ ha)) with e | e
        · have := hm'.1 a ha; omega
        · exact e
    rw [this]
theorem okL_iff {n : Int} : ∀ {p : Int} {l : List S27}, okL n p l = true ↔ (∀ x ∈ l, p < x.f0 ∧ plB x.f0 n = true) ∧ Asc (l.map (·.f0))
  | p, [] => by simp [okL, Asc]
  | p, x :: r => by
    simp only [okL, Bool.and_eq_true, decide_eq_true_eq, List.map_cons, Asc, List.pairwise_cons, List.mem_cons, List.mem_map]
    rw [okL_iff (p := x.f0) (l := r)]
    constructor
    · rintro ⟨⟨h1, h2⟩, h3, h4⟩
      refine ⟨fun y hy => ?_, ?_, h4⟩
      · rcases hy with rfl | hy
        · exact ⟨h1, h2⟩
        · exact ⟨Int.lt_trans h1 (h3 y hy).1, (h3 y hy).2⟩
      · rintro a ⟨y, hy, rfl⟩
        exact (h3 y hy).1
    · rintro ⟨h1, h2, h3⟩
      exact ⟨h1 x (.inl rfl), fun y hy => ⟨h2 _ ⟨y, hy, rfl⟩, (h1 y (.inr hy)).2⟩, h3⟩
theorem plB_iff {a n : Int} : plB a n = true ↔ 0 < a ∧ a % 8 = 0 ∧ a ≤ n := by unfold plB; simp [and_assoc]
theorem okL_le {n m p : Int} {l : List S27} (h : okL n p l = true) (hm : n ≤ m) : okL m p l = true := by
  rw [okL_iff] at h ⊢
  refine ⟨fun x hx => ⟨(h.1 x hx).1, ?_⟩, h.2⟩
  have := plB_iff.1 (h.1 x hx).2
  exact plB_iff.2 (by omega)
theorem okL_filter {n p : Int} {l : List S27} (h : okL n p l = true) (f : S27 → Bool) : okL n p (l.filter f) = true := by
  rw [okL_iff] at h ⊢
  refine ⟨fun x hx => h.1 x (List.mem_filter.1 hx).1, ?_⟩
  exact h.2.sublist ((List.filter_sublist).map _)
theorem hasB_iff {l : List S27} {a : Int} : check_Missing.hasB l a = true ↔ a ∈ l.map (·.f0) := by
  unfold check_Missing.hasB
  rw [List.any_eq_true, List.mem_map]
  constructor
  · rintro ⟨x, hx, he⟩; exact ⟨x, hx, eq_of_beq he⟩
  · rintro ⟨x, hx, rfl⟩; exact ⟨x, hx, beq_self_eq_true _⟩
theorem mem_places {a n : Int} : a ∈ placesS n ↔ plB a n = true ∧ n ≤ 500 := by
  rw [plB_iff]
  unfold placesS check_Places.l
  split
  · rename_i h
    rw [List.mem_map]
    constructor
    · rintro ⟨i, hi, rfl⟩
      rw [List.mem_range] at hi
      omega
    · rintro ⟨⟨h1, h2, h3⟩, h4⟩
      exact ⟨(a / 8 - 1).toNat, by rw [List.mem_range]; omega, by omega⟩
  · rename_i h
    simp only [List.not_mem_nil, false_iff]
    omega
theorem asc_places (n : Int) : Asc (placesS n) := by
  unfold placesS check_Places.l Asc
  split
  · rw [List.pairwise_map]
    exact List.pairwise_lt_range.imp fun h => by omega
  · exact List.Pairwise.nil
theorem asc_filter {l : List Int} (h : Asc l) (f : Int → Bool) : Asc (l.filter f) := h.sublist List.filter_sublist
/-- those that are there are the checkpoints' own places -/
theorem places_has {n : Int} {l : List S27} (h : okL n 0 l = true) (hn : n ≤ 500) : (placesS n).filter (check_Missing.hasB l) = l.map (·.f0) := by
  have h' := okL_iff.1 h
  refine Asc.ext (asc_filter (asc_places n) _) h'.2 fun a => ?_
  rw [List.mem_filter, hasB_iff]
  refine ⟨fun h => h.2, fun ha => ⟨?_, ha⟩⟩
  obtain ⟨x, hx, rfl⟩ := List.mem_map.1 ha
  exact mem_places.2 ⟨(h'.1 x hx).2, hn⟩
theorem keep_len {n : Int} {l : List S27} (h : okL n 0 l = true) (hn : n ≤ 500) : l.length + (check_Missing.keep l (placesS n)).length = (placesS n).length := by
  have h1 : l.length = ((placesS n).filter (check_Missing.hasB l)).length := by rw [places_has h hn, List.length_map]
  rw [h1]
  unfold check_Missing.keep
  rw [← List.countP_eq_length_filter, ← List.countP_eq_length_filter]
  have := (List.length_eq_countP_add_countP (p := check_Missing.hasB l) (l := placesS n)).symm
  simpa using this
theorem all_places {n : Int} {l : List S27} (h : okL n 0 l = true) (hn : n ≤ 500) (hall : ∀ a ∈ placesS n, check_Missing.hasB l a = true) : l.map (·.f0) = placesS n := by
  rw [← places_has h hn]
  exact List.filter_eq_self.2 hall

/-! ### Kept, Nearest -/
theorem mayS_zero {l : List S27} {n : Int} : mayS l n = 0 ↔ (0 ≤ n ∧ n ≤ 500) ∧ okL n 0 l = true := by
  unfold mayS
  by_cases h : n < 0 ∨ n > 500
  · rw [if_pos h]; constructor
    · intro h; omega
    · intro h2; omega
  · rw [if_neg h]
    by_cases h2 : okL n 0 l = true
    · rw [if_pos h2]; exact ⟨fun _ => ⟨by omega, h2⟩, fun _ => rfl⟩
    · rw [if_neg h2]; constructor
      · intro h; omega
      · intro h3; exact absurd h3.2 h2
theorem keptS_eq {l : List S27} {a : Int} (h : okL 500 0 l = true) : keptS l a = l.filter (leB a) := by unfold keptS; rw [if_pos h]
theorem keptS_idem {l : List S27} {a : Int} (h : okL 500 0 l = true) : keptS (keptS l a) a = keptS l a := by
  rw [keptS_eq h, keptS_eq (okL_filter h _), List.filter_filter]
  congr 1
  funext x
  simp
theorem nearS_idem {l : List S27} {a : Int} (h : okL 500 0 l = true) : nearS (keptS l a) a = nearS l a := by
  unfold nearS
  rw [keptS_idem h]
theorem nearS_some {l : List S27} {a : Int} {x : S27} (h : okL 500 0 l = true) (hn : nearS l a = (x, true)) : x ∈ l ∧ x.f0 ≤ a ∧ ∀ y ∈ l, y.f0 ≤ a → y.f0 ≤ x.f0 := by
  unfold nearS at hn
  rw [keptS_eq h] at hn
  cases hg : (l.filter (leB a)).getLast? with
  | none => rw [hg] at hn; simp at hn
  | some m =>
    rw [hg] at hn
    simp at hn
    subst hn
    have hmem := List.mem_of_getLast? hg
    have h1 := List.mem_filter.1 hmem
    refine ⟨h1.1, of_decide_eq_true h1.2, fun y hy hya => ?_⟩
    obtain ⟨ys, hys⟩ := List.getLast?_eq_some_iff.1 hg
    have hasc := (okL_iff.1 (okL_filter h (leB a))).2
    rw [hys, List.map_append, Asc, List.pairwise_append] at hasc
    have hy2 : y ∈ ys ++ [m] := by rw [← hys, List.mem_filter]; exact ⟨hy, decide_eq_true hya⟩
    rcases List.mem_append.1 hy2 with h3 | h3
    · have := hasc.2.2 y.f0 (List.mem_map_of_mem h3) m.f0 (by simp)
      omega
    · simp at h3; subst h3; exact Int.le_refl _
theorem nearS_none {l : List S27} {a : Int} {x : S27} (h : okL 500 0 l = true) (hn : nearS l a = (x, false)) : ∀ y ∈ l, a < y.f0 := by
  unfold nearS at hn
  rw [keptS_eq h] at hn
  cases hg : (l.filter (leB a)).getLast? with
  | none =>
    intro y hy
    rw [List.getLast?_eq_none_iff, List.filter_eq_nil_iff] at hg
    have := hg y hy
    unfold leB at this
    simp at this
    omega
  | some m => rw [hg] at hn; simp at hn
/-- nothing is missing: the nearest one is near -/
theorem near_near {l : List S27} {n a : Int} {x : S27} {b : Bool} (hm : mayS l n = 0) (hx : nearS l a = (x, b)) (h0 : missS l n = []) (ha : a ≤ n) : (b = true → a - x.f0 < 8) ∧ b = decide (8 ≤ a) := by
  obtain ⟨⟨hn0, hn5⟩, hok⟩ := mayS_zero.1 hm
  have h5 := okL_le hok hn5
  have hall : ∀ c, plB c n = true → c ∈ l.map (·.f0) := fun c hc => by
    unfold missS at h0
    rw [if_pos h5] at h0
    unfold check_Missing.keep at h0
    rw [List.filter_eq_nil_iff] at h0
    have := h0 c (mem_places.2 ⟨hc, hn5⟩)
    simp at this
    exact hasB_iff.1 this
  cases b with
  | true =>
    obtain ⟨h1, h2, h3⟩ := nearS_some h5 hx
    have hpl := plB_iff.1 ((okL_iff.1 h5).1 x h1).2
    refine ⟨fun _ => ?_, (decide_eq_true (by omega)).symm⟩
    obtain ⟨y, hy, hye⟩ := List.mem_map.1 (hall (8 * (a / 8)) (plB_iff.2 (by omega)))
    have := h3 y hy (by omega)
    omega
  | false =>
    refine ⟨(fun h => by cases h), (decide_eq_false fun h8 => ?_).symm⟩
    obtain ⟨y, hy, hye⟩ := List.mem_map.1 (hall 8 (plB_iff.2 (by omega)))
    have := nearS_none h5 hx y hy
    omega

/-! ### Put -/
theorem okL_put {n : Int} {l : List S27} {m : S27} (h : okL n 0 l = true) (hn : n ≤ 500) (hp : plB m.f0 n = true) (hm : check_Missing.hasB l m.f0 = false) :
    ∃ l', putS l m = (l', 0) ∧ l'.length = l.length + 1 ∧ okL n 0 l' = true ∧ ∀ a, check_Missing.hasB l' a = (check_Missing.hasB l a || (a == m.f0)) := by
  have h5 := okL_le h hn
  have hp5 : plB m.f0 500 = true := plB_iff.2 (by have := plB_iff.1 hp; omega)
  obtain ⟨j, hj, _, hf⟩ := search (a := m.f0) h5 l.length 0 l.length (by omega) (by omega) (Nat.le_refl _) (fun q hq => by omega) (fun q hq hq2 => by omega)
  have hk : keptS l m.f0 = l.take j := by rw [keptS_eq h5, hf]
  have hlen : (keptS l m.f0).length = j := by rw [hk, List.length_take]; omega
  have hle : ∀ x ∈ l.take j, x.f0 < m.f0 := fun x hx => by
    rw [hf, List.mem_filter] at hx
    have h1 : x.f0 ≤ m.f0 := of_decide_eq_true hx.2
    have h2 : x.f0 ≠ m.f0 := fun e => by
      have := hasB_iff.2 (List.mem_map_of_mem (f := (·.f0)) hx.1)
      rw [e, hm] at this; cases this
    omega
  have hgt : ∀ x ∈ l.drop j, m.f0 < x.f0 := fun x hx => by
    have hnd : l.Pairwise (fun a b => a.f0 < b.f0) := by have := (okL_iff.1 h).2; rwa [Asc, List.pairwise_map] at this
    rcases Int.lt_or_le m.f0 x.f0 with h1 | h1
    · exact h1
    · exfalso
      have hxl : x ∈ l := List.mem_of_mem_drop hx
      have hxt : x ∈ l.take j := by rw [hf, List.mem_filter]; exact ⟨hxl, decide_eq_true h1⟩
      rw [← List.take_append_drop j l, List.pairwise_append] at hnd
      have := hnd.2.2 x hxt x hx
      omega
  refine ⟨l.take j ++ m :: l.drop j, ?_, ?_, ?_, fun a => ?_⟩
  · unfold putS
    rw [if_neg (by rw [h5]; simp), if_neg (by rw [hp5]; simp), if_neg (by rw [hm]; simp), hlen]
  · simp; omega
  · rw [okL_iff] at h ⊢
    refine ⟨fun x hx => ?_, ?_⟩
    · rcases List.mem_append.1 hx with hx | hx
      · exact h.1 x (List.mem_of_mem_take hx)
      · rcases List.mem_cons.1 hx with rfl | hx
        · exact ⟨(plB_iff.1 hp).1, hp⟩
        · exact h.1 x (List.mem_of_mem_drop hx)
    · have hnd := h.2
      rw [← List.take_append_drop j l, List.map_append, Asc, List.pairwise_append] at hnd
      rw [List.map_append, List.map_cons, Asc, List.pairwise_append, List.pairwise_cons]
      refine ⟨hnd.1, ⟨fun a ha => ?_, hnd.2.1⟩, fun a ha b hb => ?_⟩
      · obtain ⟨x, hx, rfl⟩ := List.mem_map.1 ha; exact hgt x hx
      · obtain ⟨x, hx, rfl⟩ := List.mem_map.1 ha
        rcases List.mem_cons.1 hb with rfl | hb
        · exact hle x hx
        · exact hnd.2.2 _ (List.mem_map_of_mem hx) b hb
  · have e : check_Missing.hasB l a = (check_Missing.hasB (l.take j) a || check_Missing.hasB (l.drop j) a) := by
      unfold check_Missing.hasB
      rw [← List.any_append, List.take_append_drop]
    rw [e]
    unfold check_Missing.hasB
    rw [List.any_append, List.any_cons, show (m.f0 == a) = (a == m.f0) from by rw [Bool.eq_iff_iff, beq_iff_eq, beq_iff_eq]; exact eq_comm]
    cases (List.any (l.take j) fun m => m.f0 == a) <;> cases (List.any (l.drop j) fun m => m.f0 == a) <;> simp
end Go.Proofs.Ytgippbgcmmjnbaa.Ct
