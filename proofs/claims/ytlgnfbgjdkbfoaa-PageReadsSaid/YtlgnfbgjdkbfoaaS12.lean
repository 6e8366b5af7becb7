import Derived.Test.YtlgnfbgjdkbfoaaS11
import Derived.Test.YtlgnfbgjdkbfoaaS07
import Derived.Test.YtlgnfbgjdkbfoaaS03
namespace Go.Proofs.Ytlgnfbgjdkbfoaa.Pg
open Go.RowKit Go.Proofs.Ytlgnfbgjdkbfoaa.XH Go.Proofs.Ytlgnfbgjdkbfoaa.Wd Go.Proofs.YtlgnfbgjdkbfoaaW.PrintWords Go.Proofs.YtlgnfbgjdkbfoaaW.PrintLast Go.Proofs.YtlgnfbgjdkbfoaaW.PrintMore Go.Proofs.YtlgnfbgjdkbfoaaXe Go.Proofs.YtlgnfbgjdkbfoaaXs
set_option linter.unusedVariables false
set_option linter.unusedSimpArgs false
attribute [local go_sem ↓] Go.wp_at_zero Go.wp_at_succ
theorem bytes_str (xs : List Int) (h : ∀ x ∈ xs, 0 ≤ x ∧ x < 256) : bytesOf (strOfNums xs) = xs := by
  show ((strOfNums xs).data.toList.map fun b => (b.toNat : Int)) = xs
  rw [strOfNums_data, List.map_map]
  conv => rhs; rw [← List.map_id xs]
  apply List.map_congr_left
  intro x hx
  have := h x hx
  simp only [Function.comp, id]
  have h2 : x.toNat < UInt8.size := by show x.toNat < 256; omega
  rw [UInt8.toNat_ofNat_of_lt' h2]
  omega
theorem readL_st {b : List Int} (hB : ∀ x ∈ b, 0 ≤ x ∧ x < 256) (lv : Int) : ∀ (k : Nat) (s : RS) (ps : List S55) (ls : List S66), Stands b s → Stands b (readL b lv k s ps ls).1
  | 0, s, ps, ls, h => h
  | k + 1, s, ps, ls, h => by
    rw [readL]
    split
    · split
      · exact readL_st hB lv k _ _ _ (rTxt_st (rTxt_st h))
      · exact readL_st hB lv k _ _ _ (rNum_st (rId_st (rTxt_st h)) (by decide) hB)
    · exact h
theorem readL_err {b : List Int} {lv : Int} : ∀ (k : Nat) (s : RS) (ps : List S55) (ls : List S66), s.err ≠ 0 → readL b lv k s ps ls = (s, ps, ls)
  | 0, _, _, _, _ => rfl
  | k + 1, s, ps, ls, h => by rw [readL, if_neg h]
theorem readL_pairs {b : List Int} (hB : ∀ x ∈ b, 0 ≤ x ∧ x < 256) : ∀ (k : Nat) (s : RS) (ps : List S55), Stands b s → (readL b 0 k s ps []).1.err = 0 → ∃ l : List S55, l.length = k ∧ (readL b 0 k s ps []).2 = (ps ++ l, []) ∧ s.err = 0 ∧ b.take (readL b 0 k s ps []).1.at_ = b.take s.at_ ++ l.flatMap encPair
  | 0, s, ps, h, he => ⟨[], rfl, by simp [readL], he, by simp [readL]⟩
  | k + 1, s, ps, h, he => by
    by_cases hs : s.err = 0
    · rw [readL, if_pos hs, if_pos rfl] at he ⊢
      have st1 := rTxt_st (most := 32) h
      have st2 := rTxt_st (most := 64) st1
      obtain ⟨l, g1, g2, g3, g4⟩ := readL_pairs hB k _ _ st2 he
      obtain ⟨k1, k2, k3, k4⟩ := rTxt_dec hB st1.1 g3
      obtain ⟨m1, m2, m3, m4⟩ := rTxt_dec hB h.1 k1
      refine ⟨⟨strOfNums (rTxt b s 32).1, strOfNums (rTxt b (rTxt b s 32).2 64).1⟩ :: l, by rw [List.length_cons, g1], by rw [g2, List.append_assoc]; rfl, hs, ?_⟩
      rw [g4, k3, m3]
      simp only [List.flatMap_cons, encPair, strOfNums_size, bytes_str _ m4, bytes_str _ k4, List.append_assoc]
    · rw [readL_err _ _ _ _ hs] at he
      exact absurd he hs
theorem readL_links {b : List Int} (hB : ∀ x ∈ b, 0 ≤ x ∧ x < 256) (lv : Int) (hlv : lv ≠ 0) : ∀ (k : Nat) (s : RS) (ls : List S66), Stands b s → (readL b lv k s [] ls).1.err = 0 → ∃ l : List S66, l.length = k ∧ (readL b lv k s [] ls).2 = ([], ls ++ l) ∧ s.err = 0 ∧ b.take (readL b lv k s [] ls).1.at_ = b.take s.at_ ++ l.flatMap encLink ∧ ∀ x ∈ l, ∀ z ∈ by63 x.f1, 0 ≤ z ∧ z < 256
  | 0, s, ls, h, he => ⟨[], rfl, by simp [readL], he, by simp [readL], by simp⟩
  | k + 1, s, ls, h, he => by
    by_cases hs : s.err = 0
    · rw [readL, if_pos hs, if_neg hlv] at he ⊢
      have st1 := rTxt_st (most := 32) h
      have st2 := rId_st st1
      have st3 := rNum_st (low := 1) (high := 65536) (above := 5) st2 (by decide) hB
      obtain ⟨l, g1, g2, g3, g4, g5⟩ := readL_links hB lv hlv k _ _ st3 he
      obtain ⟨k1, k2, k3, _, k4⟩ := rNum_dec hB (by decide) st2.1 g3
      obtain ⟨i1, i2, i3⟩ := rId_dec k1 st1.1 hB
      obtain ⟨m1, m2, m3, m4⟩ := rTxt_dec hB h.1 i1
      have hid := by63_mk _ (rId_len b (rTxt b s 32).2)
      refine ⟨⟨strOfNums (rTxt b s 32).1, mk63 (rId b (rTxt b s 32).2).1, (rNum b (rId b (rTxt b s 32).2).2 1 65536 5).1⟩ :: l, by rw [List.length_cons, g1], by rw [g2, List.append_assoc]; rfl, hs, ?_, fun x hx => ?_⟩
      · rw [g4, k4, i2, m3]
        simp only [List.flatMap_cons, encLink, strOfNums_size, bytes_str _ m4, hid, List.append_assoc]
      · rcases List.mem_cons.1 hx with rfl | hx
        · intro z hz
          rw [hid] at hz
          exact i3 z hz
        · exact g5 x hx
    · rw [readL_err _ _ _ _ hs] at he
      exact absurd he hs
theorem items_st {b : List Int} (hB : ∀ x ∈ b, 0 ≤ x ∧ x < 256) : Stands b (items b).1 := by
  have s0 : Stands b rs0 := ⟨by simp [rs0], fun h => absurd rfl h⟩
  exact readL_st hB _ _ _ _ _ (rNum_st (rNum_st s0 (by decide) hB) (by decide) hB)
theorem read_place {b : List Int} (hB : ∀ x ∈ b, 0 ≤ x ∧ x < 256) : 0 ≤ (readP b).2.2 ∧ (readP b).2.2 ≤ b.length ∧ ((readP b).2.1 ≠ 0 → (readP b).1 = (0, [], [])) := by
  have st := items_st hB
  unfold readP
  split
  · rename_i h
    refine ⟨?_, ?_, fun _ => rfl⟩
    · unfold rEnd at h ⊢
      split
      · simp
      · rename_i h2
        rw [if_neg h2] at h
        exact (st.2 h).2.1
    · unfold rEnd at h ⊢
      split
      · have := st.1; simp; omega
      · rename_i h2
        rw [if_neg h2] at h
        exact (st.2 h).2.2
  · split
    · exact ⟨by simp, by simp, fun _ => rfl⟩
    · exact ⟨by simp, by simp, fun h => absurd rfl h⟩
theorem read_ok {b : List Int} (hB : ∀ x ∈ b, 0 ≤ x ∧ x < 256) (h : (readP b).2.1 = 0) : pageS (readP b).1.1 (readP b).1.2.1 (readP b).1.2.2 = 0 ∧ pageB (readP b).1.1 (readP b).1.2.1 (readP b).1.2.2 = b ∧ ∀ x ∈ (readP b).1.2.2, ∀ z ∈ by63 x.f1, 0 ≤ z ∧ z < 256 := by
  have s0 : Stands b rs0 := ⟨by simp [rs0], fun h => absurd rfl h⟩
  have st1 : Stands b (hd1 b).2 := rNum_st s0 (by decide) hB
  have st2 : Stands b (hd2 b).2 := rNum_st st1 (by decide) hB
  have st := items_st hB
  unfold readP at h ⊢
  by_cases he : (rEnd b (items b).1).1 ≠ 0
  · rw [if_pos he] at h
    exact absurd h he
  · rw [if_neg he] at h ⊢
    by_cases hp : pageS (hd1 b).1 (items b).2.1 (items b).2.2 ≠ 0
    · rw [if_pos hp] at h
      exact absurd h (by simp)
    · rw [if_neg hp]
      have hp' : pageS (hd1 b).1 (items b).2.1 (items b).2.2 = 0 := by simpa using hp
      have hend : (items b).1.err = 0 ∧ (items b).1.at_ = b.length := by
        have he' : (rEnd b (items b).1).1 = 0 := by simpa using he
        unfold rEnd at he'
        split at he'
        · simp at he'
        · rename_i h2
          have := st.1
          exact ⟨he', by have h3 : ¬ ((items b).1.at_ < b.length) := fun h4 => h2 ⟨he', h4⟩; omega⟩
      have hit : items b = readL b (hd1 b).1 (hd2 b).1.toNat (hd2 b).2 [] [] := rfl
      have hbt : b.take (items b).1.at_ = b := List.take_of_length_le (by omega)
      refine ⟨hp', ?_, ?_⟩
      all_goals by_cases hlv : (hd1 b).1 = 0
      · have he3 := hend.1
        rw [hit, hlv] at he3
        obtain ⟨l, g1, g2, g3, g4⟩ := readL_pairs hB _ _ _ st2 he3
        obtain ⟨k1, k2, k3, k4, k5⟩ := rNum_dec hB (by decide) st1.1 g3
        obtain ⟨m1, m2, m3, m4, m5⟩ := rNum_dec hB (by decide) s0.1 k1
        rw [← hlv, ← hit] at g2 g4
        rw [hbt, show b.take (hd2 b).2.at_ = b.take (hd1 b).2.at_ ++ encN (hd2 b).1 from k5, show b.take (hd1 b).2.at_ = b.take 0 ++ encN (hd1 b).1 from m5] at g4
        have hn : (hd2 b).1 = (l.length : Int) := by have : 0 ≤ (hd2 b).1 := k4; omega
        rw [g2]
        simp only [List.nil_append]
        rw [pageB, if_pos hlv, ← hn]
        exact (g4.trans (by simp)).symm
      · have he3 := hend.1
        rw [hit] at he3
        obtain ⟨l, g1, g2, g3, g4, g5⟩ := readL_links hB _ hlv _ _ _ st2 he3
        obtain ⟨k1, k2, k3, k4, k5⟩ := rNum_dec hB (by decide) st1.1 g3
        obtain ⟨m1, m2, m3, m4, m5⟩ := rNum_dec hB (by decide) s0.1 k1
        rw [← hit] at g2 g4
        rw [hbt, show b.take (hd2 b).2.at_ = b.take (hd1 b).2.at_ ++ encN (hd2 b).1 from k5, show b.take (hd1 b).2.at_ = b.take 0 ++ encN (hd1 b).1 from m5] at g4
        have hn : (hd2 b).1 = (l.length : Int) := by have : 0 ≤ (hd2 b).1 := k4; omega
        rw [g2]
        simp only [List.nil_append]
        rw [pageB, if_neg hlv, ← hn]
        exact (g4.trans (by simp)).symm
      · have he3 := hend.1
        rw [hit, hlv] at he3
        obtain ⟨l, g1, g2, g3, g4⟩ := readL_pairs hB _ _ _ st2 he3
        rw [← hlv, ← hit] at g2
        rw [g2]
        simp
      · have he3 := hend.1
        rw [hit] at he3
        obtain ⟨l, g1, g2, g3, g4, g5⟩ := readL_links hB _ hlv _ _ _ st2 he3
        rw [← hit] at g2
        rw [g2]
        simpa using g5
end Go.Proofs.Ytlgnfbgjdkbfoaa.Pg
namespace Go.Proofs.Ytlgnfbgjdkbfoaa.Pg
open Go.RowKit Go.Proofs.Ytlgnfbgjdkbfoaa.XH Go.Proofs.Ytlgnfbgjdkbfoaa.Wd Go.Proofs.YtlgnfbgjdkbfoaaW.PrintWords Go.Proofs.YtlgnfbgjdkbfoaaW.PrintLast Go.Proofs.YtlgnfbgjdkbfoaaW.PrintMore Go.Proofs.YtlgnfbgjdkbfoaaXe Go.Proofs.YtlgnfbgjdkbfoaaXs
set_option linter.unusedVariables false
set_option linter.unusedSimpArgs false
attribute [local go_sem ↓] Go.wp_at_zero Go.wp_at_succ
theorem same_pairs (l : List S55) (hl : l.length ≤ 9223372036854775807) : Et (fun k => retconkit_SamePairs.f k l l) true := by
  have main : ∀ (d j : Nat), j + d = l.length → Et (fun k => retconkit_SamePairs.l0 k l l (j : Int)) true := by
    intro d
    induction d with
    | zero =>
      intro j hj
      refine Et.succ ?_
      simp only [retconkit_SamePairs.l0]
      exact Et.neg (by omega) (Et.ret _)
    | succ d ih =>
      intro j hj
      refine Et.succ ?_
      simp only [retconkit_SamePairs.l0]
      refine Et.pos (by omega) (Et.pos (by omega) (Et.pos (by omega) (Et.neg (by simp) ?_)))
      rw [wr (by omega)]
      exact ih (j + 1) (by omega)
  unfold retconkit_SamePairs.f
  exact Et.pos rfl (main l.length 0 (by omega))
theorem same_page (lv : Int) (l1 : List S55) (l2 : List S66) (h1 : l1.length ≤ 9223372036854775807) (h2 : l2.length ≤ 9223372036854775807) : ∃ k, retconkit_SamePage.f k lv l1 l2 lv l1 l2 = some true := by
  have main : ∀ (d j : Nat), j + d = l2.length → Et (fun k => retconkit_SamePage.l0 k (j : Int) lv l1 l2 lv l1 l2) true := by
    intro d
    induction d with
    | zero =>
      intro j hj
      refine Et.succ ?_
      simp only [retconkit_SamePage.l0]
      exact Et.neg (by omega) (Et.ret _)
    | succ d ih =>
      intro j hj
      refine Et.succ ?_
      simp only [retconkit_SamePage.l0]
      refine Et.pos (by omega) (Et.pos (by omega) (Et.pos (by omega) (Et.neg (by simp) ?_)))
      rw [wr (by omega)]
      exact ih (j + 1) (by omega)
  have h : Et (fun k => retconkit_SamePage.f k lv l1 l2 lv l1 l2) true := by
    unfold retconkit_SamePage.f
    refine Et.pos rfl (Et.bind (same_pairs l1 h1) (Et.pos rfl (Et.succ ?_)))
    simp only [retconkit_SamePage.j0]
    exact Et.neg (by simp) (main l2.length 0 (by omega))
  exact h.out
end Go.Proofs.Ytlgnfbgjdkbfoaa.Pg
