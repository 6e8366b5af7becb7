import Derived.Test.YtlgnfbgjdkbfoaaR06
import Derived.Test.YtlgnfbgjdkbfoaaR10
import Derived.Test.YtlgnfbgjdkbfoaaR03
namespace Go.Proofs.Ytlgnfbgjdkbfoaa.Wd
open Go.RowKit Go.Proofs.YtlgnfbgjdkbfoaaW.PrintWords Go.Proofs.YtlgnfbgjdkbfoaaW.PrintLast Go.Proofs.YtlgnfbgjdkbfoaaW.PrintMore Go.Proofs.YtlgnfbgjdkbfoaaXe Go.Proofs.YtlgnfbgjdkbfoaaXs
set_option linter.unusedVariables false
set_option linter.unusedSimpArgs false
attribute [local go_sem ↓] Go.wp_at_zero Go.wp_at_succ
theorem p128s (k : Nat) : (128 : Int) ^ (k + 1) = 128 * 128 ^ k := by rw [Int.pow_succ, Int.mul_comm]
theorem p128pos (k : Nat) : 0 < (128 : Int) ^ k := Int.pow_pos (by decide)
theorem scan_enc (b : List Int) (at0 : Nat) : ∀ (d k e a : Nat) (m acc : Int), k + d = 9 → 1 ≤ d → d ≤ e + 1 → 0 ≤ m → m < 128 ^ d → (m = 0 → k = 0) → (∀ i x, (encF e m)[i]? = some x → b[a + i]? = some x) → scanN b at0 d k a acc = .ok (acc + m * 128 ^ k, a + (encF e m).length)
  | 0, _, _, _, _, _, _, h, _, _, _, _, _ => by omega
  | d + 1, k, e, a, m, acc, hk, _, he, h0, h1, hz, hb => by
    by_cases hm : 127 < m
    · obtain ⟨e', rfl⟩ : ∃ e', e = e' + 1 := by
        cases e with
        | zero =>
          exfalso
          have : d = 0 := by omega
          subst this
          simp at h1
          omega
        | succ e' => exact ⟨e', rfl⟩
      have hd : 1 ≤ d := by
        cases d with
        | zero => simp at h1; omega
        | succ d => omega
      have henc : encF (e' + 1) m = (m % 128 + 128) :: encF e' (m / 128) := by rw [encF, if_pos hm]
      rw [henc] at hb ⊢
      have h2 : b[a]? = some (m % 128 + 128) := hb 0 _ rfl
      rw [p128s] at h1
      have ih := scan_enc b at0 d (k + 1) e' (a + 1) (m / 128) (acc + (m % 128 + 128) % 128 * 128 ^ k) (by omega) hd (by omega) (by omega) (Int.ediv_lt_of_lt_mul (by decide) (by rw [Int.mul_comm]; exact h1)) (fun h => by omega) (fun i x hx => by
        have := hb (i + 1) x (by simpa using hx)
        rwa [show a + 1 + i = a + (i + 1) by omega])
      rw [scanN, h2]
      simp only
      rw [if_neg (by omega), if_neg (by omega), ih, List.length_cons, show a + 1 + (encF e' (m / 128)).length = a + ((encF e' (m / 128)).length + 1) by omega]
      congr 2
      rw [show (m % 128 + 128) % 128 = m % 128 by omega, p128s, Int.add_assoc]
      congr 1
      rw [show m / 128 * (128 * 128 ^ k) = (128 * (m / 128)) * 128 ^ k by rw [← Int.mul_assoc, Int.mul_comm (m / 128) 128], ← Int.add_mul]
      congr 1
      omega
    · have henc : encF e m = [m] := by
        cases e with
        | zero => rfl
        | succ e => rw [encF, if_neg hm]
      rw [henc] at hb ⊢
      have h2 : b[a]? = some m := hb 0 _ rfl
      rw [scanN, h2]
      simp only
      rw [if_pos (by omega), if_neg (fun h => by have := hz h.1; omega), show m % 128 = m by omega]
      rfl
theorem scan_dec (b : List Int) (at0 : Nat) (hB : ∀ x ∈ b, 0 ≤ x ∧ x < 256) : ∀ (d k e a : Nat) (acc n : Int) (a' : Nat), k + d = 9 → d ≤ e + 1 → scanN b at0 d k a acc = .ok (n, a') → ∃ m, n = acc + m * 128 ^ k ∧ 0 ≤ m ∧ m < 128 ^ d ∧ (0 < k → 0 < m) ∧ a' ≤ b.length ∧ a < a' ∧ b.take a' = b.take a ++ encF e m
  | 0, _, _, _, _, _, _, _, _, h => by simp [scanN] at h
  | d + 1, k, e, a, acc, n, a', hk, he, h => by
    rw [scanN] at h
    cases hb : b[a]? with
    | none => rw [hb] at h; simp at h
    | some c =>
      rw [hb] at h
      simp only at h
      have hc := hB c (List.mem_of_getElem? hb)
      have hlt := (List.getElem?_eq_some_iff.1 hb).1
      have htk : b.take (a + 1) = b.take a ++ [c] := by rw [List.take_add_one, hb]; rfl
      by_cases h1 : c < 128
      · rw [if_pos h1] at h
        split at h
        · simp at h
        · rename_i hz
          simp only [Except.ok.injEq, Prod.mk.injEq] at h
          obtain ⟨rfl, rfl⟩ := h
          refine ⟨c, by rw [show c % 128 = c by omega], hc.1, ?_, fun hk0 => by omega, by omega, by omega, ?_⟩
          · have := p128pos d
            rw [p128s]
            omega
          · rw [htk]
            congr 1
            cases e with
            | zero => rfl
            | succ e => rw [encF, if_neg (by omega)]
      · rw [if_neg h1] at h
        split at h
        · simp at h
        · rename_i h8
          obtain ⟨m, g1, g2, g3, g4, g5, g6, g7⟩ := scan_dec b at0 hB d (k + 1) (e - 1) (a + 1) _ n a' (by omega) (by omega) h
          have hm := g4 (by omega)
          refine ⟨c % 128 + m * 128, ?_, by omega, by rw [p128s]; omega, fun _ => by omega, g5, by omega, ?_⟩
          · rw [g1, p128s, Int.add_assoc]
            congr 1
            rw [show m * (128 * 128 ^ k) = (m * 128) * 128 ^ k by rw [Int.mul_assoc], ← Int.add_mul]
          · rw [g7, htk, List.append_assoc]
            congr 1
            obtain ⟨e', rfl⟩ : ∃ e', e = e' + 1 := ⟨e - 1, by omega⟩
            rw [encF, if_pos (by omega), show (c % 128 + m * 128) % 128 + 128 = c by omega, show (c % 128 + m * 128) / 128 = m by omega]
            rfl
/-- a fault's place lies in the bytes -/
def Placed (b : List Int) (e : Int × Int) : Prop := e.1 ≠ 0 ∧ 0 ≤ e.2 ∧ e.2 ≤ b.length
theorem scan_err (b : List Int) (at0 : Nat) (h0 : at0 ≤ b.length) : ∀ (d k a : Nat) (acc : Int) (e : Int × Int), scanN b at0 d k a acc = .error e → Placed b e
  | 0, _, _, _, e, h => by
    simp only [scanN, Except.error.injEq] at h
    subst h
    exact ⟨by simp, by simp, by simpa using h0⟩
  | d + 1, k, a, acc, e, h => by
    rw [scanN] at h
    cases hb : b[a]? with
    | none =>
      rw [hb] at h
      simp only [Except.error.injEq] at h
      subst h
      exact ⟨by simp, by simp, by simp⟩
    | some c =>
      rw [hb] at h
      simp only at h
      split at h
      · split at h
        · simp only [Except.error.injEq] at h
          subst h
          exact ⟨by simp, by simp, by simpa using h0⟩
        · simp at h
      · split at h
        · simp only [Except.error.injEq] at h
          subst h
          exact ⟨by simp, by simp, by simpa using h0⟩
        · exact scan_err b at0 h0 d (k + 1) (a + 1) _ e h
theorem mid_at {pre x post : List Int} {i : Nat} {v : Int} (h : x[i]? = some v) : (pre ++ x ++ post)[pre.length + i]? = some v := by
  have hi : i < x.length := (List.getElem?_eq_some_iff.1 h).1
  rw [List.append_assoc, List.getElem?_append_right (by omega), show pre.length + i - pre.length = i by omega, List.getElem?_append_left hi]
  exact h
theorem num_enc (pre post : List Int) (n low high above : Int) (h0 : 0 ≤ n) (h9 : n < 128 ^ 9) (h1 : low ≤ n) (h2 : n ≤ high) : numP (pre ++ encN n ++ post) pre.length low high above = .ok (n, (pre ++ encN n).length) := by
  have h := scan_enc (pre ++ encN n ++ post) pre.length 9 0 9 pre.length n 0 rfl (by decide) (by decide) h0 h9 (fun _ => rfl) (fun i x hx => mid_at hx)
  rw [num_ok low high above h, show (0 : Int) + n * 128 ^ 0 = n by simp, if_neg (by omega), if_neg (by omega), List.length_append]
  rfl
theorem num_dec {b : List Int} (hB : ∀ x ∈ b, 0 ≤ x ∧ x < 256) {a a' : Nat} {n low high above : Int} (h : numP b a low high above = .ok (n, a')) : low ≤ n ∧ n ≤ high ∧ 0 ≤ n ∧ n < 128 ^ 9 ∧ a' ≤ b.length ∧ a < a' ∧ b.take a' = b.take a ++ encN n := by
  have hl := numP_low h
  unfold numP at h
  split at h
  · simp at h
  · rename_i n2 a2 hs
    split at h
    · simp at h
    · split at h
      · simp at h
      · simp only [Except.ok.injEq, Prod.mk.injEq] at h
        obtain ⟨rfl, rfl⟩ := h
        obtain ⟨m, g1, g2, g3, _, g5, g6, g7⟩ := scan_dec b a hB 9 0 9 a 0 n2 a2 rfl (by decide) hs
        have : n2 = m := by rw [g1]; simp
        subst this
        exact ⟨hl.1, hl.2, g2, g3, g5, g6, g7⟩
theorem num_err_at {b : List Int} {a : Nat} (ha : a ≤ b.length) {low high above : Int} (hab : above ≠ 0) {e : Int × Int} (h : numP b a low high above = .error e) : Placed b e := by
  unfold numP at h
  split at h
  · simp only [Except.error.injEq] at h
    subst h
    exact scan_err b a ha _ _ _ _ _ (by assumption)
  · split at h
    · simp only [Except.error.injEq] at h
      subst h
      exact ⟨by simp, by simp, by simpa using ha⟩
    · split at h
      · simp only [Except.error.injEq] at h
        subst h
        exact ⟨hab, by simp, by simpa using ha⟩
      · simp at h
def at0 (pre : List Int) : RS := ⟨pre.length, 0, 0⟩
theorem rNum_enc (b pre post : List Int) (n low high above : Int) (hb : b = pre ++ encN n ++ post) (h0 : 0 ≤ n) (h9 : n < 128 ^ 9) (h1 : low ≤ n) (h2 : n ≤ high) : rNum b (at0 pre) low high above = (n, at0 (pre ++ encN n)) := by
  subst hb
  unfold rNum
  rw [if_neg (by simp [at0]), show (at0 pre).at_ = pre.length from rfl, num_enc pre post n low high above h0 h9 h1 h2]
  rfl
theorem rTxt_enc (b pre post : List Int) (y : ByteArray) (most : Int) (hb : b = pre ++ (encN (y.size : Int) ++ bytesOf y) ++ post) (h9 : (y.size : Int) < 128 ^ 9) (hm : (y.size : Int) ≤ most) : rTxt b (at0 pre) most = (bytesOf y, at0 (pre ++ (encN (y.size : Int) ++ bytesOf y))) := by
  subst hb
  have h := num_enc pre (bytesOf y ++ post) (y.size : Int) 0 most 3 (by omega) h9 (by omega) hm
  have e : pre ++ (encN (y.size : Int) ++ bytesOf y) ++ post = pre ++ encN (y.size : Int) ++ (bytesOf y ++ post) := by simp only [List.append_assoc]
  unfold rTxt
  rw [if_neg (by simp [at0]), show (at0 pre).at_ = pre.length from rfl]
  unfold txtP
  rw [e, h]
  simp only
  have hl : (bytesOf y).length = y.size := bytesOf_length y
  rw [if_neg (by simp only [List.length_append, Int.toNat_natCast]; omega)]
  simp only [Int.toNat_natCast]
  refine Prod.ext ?_ ?_
  · show ((pre ++ encN (y.size : Int) ++ (bytesOf y ++ post)).take ((pre ++ encN (y.size : Int)).length + y.size)).drop (pre ++ encN (y.size : Int)).length = bytesOf y
    rw [List.take_length_add_append, List.drop_left, List.take_left' hl]
  · simp only [at0, List.length_append, hl]
    rw [Nat.add_assoc]
theorem rId_enc (b pre post x : List Int) (hb : b = pre ++ x ++ post) (hx : x.length = 32) : rId b (at0 pre) = (x, at0 (pre ++ x)) := by
  subst hb
  unfold rId
  rw [if_neg (by simp [at0]), show (at0 pre).at_ = pre.length from rfl]
  unfold idP
  rw [if_neg (by simp only [List.length_append]; omega)]
  simp only
  refine Prod.ext ?_ ?_
  · show ((pre ++ x ++ post).take (pre.length + 32)).drop pre.length = x
    rw [List.append_assoc, List.take_length_add_append, List.drop_left, List.take_left' hx]
  · simp only [at0, List.length_append, hx]
/-- a reader that has told no fault stands in the bytes; one that has, tells a place in them -/
def Stands (b : List Int) (s : RS) : Prop := s.at_ ≤ b.length ∧ (s.err ≠ 0 → Placed b (s.err, s.fat))
theorem rNum_st {b : List Int} {s : RS} (h : Stands b s) {low high above : Int} (hab : above ≠ 0) (hB : ∀ x ∈ b, 0 ≤ x ∧ x < 256) : Stands b (rNum b s low high above).2 := by
  unfold rNum
  split
  · exact h
  · split
    · rename_i hs _ n a he
      exact ⟨(num_dec hB he).2.2.2.2.1, fun h' => absurd h' (by simpa using hs)⟩
    · rename_i hs _ x y he
      exact ⟨h.1, fun _ => num_err_at h.1 hab he⟩
theorem rNum_dec {b : List Int} {s : RS} (hB : ∀ x ∈ b, 0 ≤ x ∧ x < 256) {low high above : Int} (hab : above ≠ 0) (he : s.at_ ≤ b.length) (h : (rNum b s low high above).2.err = 0) : s.err = 0 ∧ low ≤ (rNum b s low high above).1 ∧ (rNum b s low high above).1 ≤ high ∧ 0 ≤ (rNum b s low high above).1 ∧ b.take (rNum b s low high above).2.at_ = b.take s.at_ ++ encN (rNum b s low high above).1 := by
  unfold rNum at h ⊢
  split
  · rename_i hs
    rw [if_pos hs] at h
    exact absurd h hs
  · rename_i hs
    rw [if_neg hs] at h
    split
    · rename_i n a hn
      have := num_dec hB hn
      exact ⟨by simpa using hs, this.1, this.2.1, this.2.2.1, this.2.2.2.2.2.2⟩
    · rename_i x y hn
      rw [hn] at h
      exact absurd h (num_err_at he hab hn).1
theorem txt_dec {b : List Int} (hB : ∀ x ∈ b, 0 ≤ x ∧ x < 256) {a a' : Nat} {most : Int} {xs : List Int} (h : txtP b a most = .ok (xs, a')) : a' ≤ b.length ∧ (xs.length : Int) ≤ most ∧ b.take a' = b.take a ++ (encN (xs.length : Int) ++ xs) ∧ ∀ x ∈ xs, 0 ≤ x ∧ x < 256 := by
  unfold txtP at h
  split at h
  · simp at h
  · rename_i n a2 hn
    split at h
    · simp at h
    · rename_i hl
      simp only [Except.ok.injEq, Prod.mk.injEq] at h
      obtain ⟨rfl, rfl⟩ := h
      obtain ⟨g1, g2, g3, _, g5, g6, g7⟩ := num_dec hB hn
      have hxl : ((b.take (a2 + n.toNat)).drop a2).length = n.toNat := by rw [List.length_drop, List.length_take]; omega
      refine ⟨by omega, by rw [hxl]; omega, ?_, fun x hx => hB x (List.mem_of_mem_take (List.mem_of_mem_drop hx))⟩
      rw [hxl, show ((n.toNat : Nat) : Int) = n by omega, ← List.append_assoc, ← g7]
      have := List.take_append_drop a2 (b.take (a2 + n.toNat))
      rw [List.take_take, show min a2 (a2 + n.toNat) = a2 by omega] at this
      exact this.symm
theorem txt_err_at {b : List Int} {a : Nat} (ha : a ≤ b.length) {most : Int} {e : Int × Int} (h : txtP b a most = .error e) : Placed b e := by
  unfold txtP at h
  split at h
  · rename_i e2 hn
    simp only [Except.error.injEq] at h
    subst h
    exact num_err_at ha (by decide) hn
  · split at h
    · simp only [Except.error.injEq] at h
      subst h
      exact ⟨by simp, by simp, by simp⟩
    · simp at h
theorem rTxt_st {b : List Int} {s : RS} (h : Stands b s) {most : Int} : Stands b (rTxt b s most).2 := by
  unfold rTxt
  split
  · exact h
  · split
    · rename_i hs _ x a he
      exact ⟨txtP_le he, fun h' => absurd h' (by simpa using hs)⟩
    · rename_i hs _ x y he
      exact ⟨h.1, fun _ => txt_err_at h.1 he⟩
theorem rTxt_dec {b : List Int} {s : RS} (hB : ∀ x ∈ b, 0 ≤ x ∧ x < 256) {most : Int} (he : s.at_ ≤ b.length) (h : (rTxt b s most).2.err = 0) : s.err = 0 ∧ ((rTxt b s most).1.length : Int) ≤ most ∧ b.take (rTxt b s most).2.at_ = b.take s.at_ ++ (encN ((rTxt b s most).1.length : Int) ++ (rTxt b s most).1) ∧ ∀ x ∈ (rTxt b s most).1, 0 ≤ x ∧ x < 256 := by
  unfold rTxt at h ⊢
  split
  · rename_i hs
    rw [if_pos hs] at h
    exact absurd h hs
  · rename_i hs
    rw [if_neg hs] at h
    split
    · rename_i n a hn
      have := txt_dec hB hn
      exact ⟨by simpa using hs, this.2.1, this.2.2.1, this.2.2.2⟩
    · rename_i x y hn
      rw [hn] at h
      exact absurd h (txt_err_at he hn).1
theorem rId_st {b : List Int} {s : RS} (h : Stands b s) : Stands b (rId b s).2 := by
  unfold rId
  split
  · exact h
  · split
    · rename_i hs _ x a he
      exact ⟨(idP_ok he).2, fun h' => absurd h' (by simpa using hs)⟩
    · rename_i hs _ x y he
      unfold idP at he
      split at he
      · simp only [Except.error.injEq, Prod.mk.injEq] at he
        obtain ⟨rfl, rfl⟩ := he
        exact ⟨h.1, fun _ => ⟨by simp, by simp, by simp⟩⟩
      · simp at he
theorem rId_dec {b : List Int} {s : RS} (h : (rId b s).2.err = 0) (he : s.at_ ≤ b.length) (hB : ∀ x ∈ b, 0 ≤ x ∧ x < 256) : s.err = 0 ∧ b.take (rId b s).2.at_ = b.take s.at_ ++ (rId b s).1 ∧ ∀ x ∈ (rId b s).1, 0 ≤ x ∧ x < 256 := by
  unfold rId at h ⊢
  split
  · rename_i hs
    rw [if_pos hs] at h
    exact absurd h hs
  · rename_i hs
    rw [if_neg hs] at h
    split
    · rename_i x a hn
      unfold idP at hn
      split at hn
      · simp at hn
      · simp only [Except.ok.injEq, Prod.mk.injEq] at hn
        obtain ⟨rfl, rfl⟩ := hn
        refine ⟨by simpa using hs, ?_, fun x hx => hB x (List.mem_of_mem_take (List.mem_of_mem_drop hx))⟩
        show b.take (s.at_ + 32) = _
        have := List.take_append_drop s.at_ (b.take (s.at_ + 32))
        rw [List.take_take, show min s.at_ (s.at_ + 32) = s.at_ by omega] at this
        exact this.symm
    · rename_i x y hn
      rw [hn] at h
      unfold idP at hn
      split at hn
      · simp only [Except.error.injEq, Prod.mk.injEq] at hn
        obtain ⟨rfl, rfl⟩ := hn
        simp at h
      · simp at hn
end Go.Proofs.Ytlgnfbgjdkbfoaa.Wd
namespace Go.Proofs.Ytlgnfbgjdkbfoaa.Pg
open Go.RowKit Go.Proofs.Ytlgnfbgjdkbfoaa.XH Go.Proofs.Ytlgnfbgjdkbfoaa.Wd Go.Proofs.YtlgnfbgjdkbfoaaW.PrintWords Go.Proofs.YtlgnfbgjdkbfoaaW.PrintLast Go.Proofs.YtlgnfbgjdkbfoaaW.PrintMore Go.Proofs.YtlgnfbgjdkbfoaaXe Go.Proofs.YtlgnfbgjdkbfoaaXs
set_option linter.unusedVariables false
set_option linter.unusedSimpArgs false
attribute [local go_sem ↓] Go.wp_at_zero Go.wp_at_succ
theorem str_bytes (y : ByteArray) : strOfNums (bytesOf y) = y := by
  apply ByteArray.ext
  apply Array.ext'
  rw [strOfNums_data]
  show ((y.data.toList.map fun b => (b.toNat : Int)).map fun n => UInt8.ofNat n.toNat) = y.data.toList
  rw [List.map_map]
  conv => rhs; rw [← List.map_id y.data.toList]
  apply List.map_congr_left
  intro x _
  simp
theorem bytes_str (xs : List Int) (h : ∀ x ∈ xs, 0 ≤ x ∧ x < 256) : bytesOf (strOfNums xs) = xs := by
  show ((strOfNums xs).data.toList.map fun b => (b.toNat : Int)) = xs
  rw [strOfNums_data, List.map_map]
  conv => rhs; rw [← List.map_id xs]
  apply List.map_congr_left
  intro x hx
  have := h x hx
  simp only [Function.comp, id]
  have h2 : x.toNat < UInt8.size := by show x.toNat < 256; omega
  rw [UInt8.toNat_ofNat_of_lt' h2]
  omega
theorem mk63_by (x : S63) : mk63 (by63 x) = x := rfl
theorem small9 {n : Int} (h : n ≤ 1000000) : n < 128 ^ 9 := Int.lt_of_le_of_lt h (by decide)
theorem read_pairs (b : List Int) : ∀ (l : List S55) (pre post : List Int) (acc : List S55), b = pre ++ l.flatMap encPair ++ post → (∀ x ∈ l, x.f0.size ≤ 32 ∧ x.f1.size ≤ 64) → readL b 0 l.length (at0 pre) acc [] = (at0 (pre ++ l.flatMap encPair), acc ++ l, [])
  | [], pre, post, acc, _, _ => by simp [readL]
  | x :: l, pre, post, acc, hb, hs => by
    have hx := hs x (List.mem_cons_self ..)
    have e1 := rTxt_enc b pre (encN (x.f1.size : Int) ++ bytesOf x.f1 ++ l.flatMap encPair ++ post) x.f0 32 (by rw [hb]; simp only [List.flatMap_cons, encPair, List.append_assoc]) (small9 (by omega)) (by omega)
    have e2 := rTxt_enc b (pre ++ (encN (x.f0.size : Int) ++ bytesOf x.f0)) (l.flatMap encPair ++ post) x.f1 64 (by rw [hb]; simp only [List.flatMap_cons, encPair, List.append_assoc]) (small9 (by omega)) (by omega)
    have ih := read_pairs b l (pre ++ encPair x) post (acc ++ [x]) (by rw [hb]; simp only [List.flatMap_cons, List.append_assoc]) (fun y hy => hs y (List.mem_cons_of_mem _ hy))
    rw [List.length_cons, readL, if_pos (show (at0 pre).err = 0 from rfl), if_pos rfl, e1]
    simp only
    rw [e2]
    simp only [str_bytes]
    rw [show pre ++ (encN (x.f0.size : Int) ++ bytesOf x.f0) ++ (encN (x.f1.size : Int) ++ bytesOf x.f1) = pre ++ encPair x by simp only [encPair, List.append_assoc], ih]
    simp only [List.flatMap_cons, List.append_assoc, List.singleton_append]
theorem read_links (b : List Int) (lv : Int) (hlv : lv ≠ 0) : ∀ (l : List S66) (pre post : List Int) (acc : List S66), b = pre ++ l.flatMap encLink ++ post → (∀ x ∈ l, x.f0.size ≤ 32 ∧ 1 ≤ x.f2 ∧ x.f2 ≤ 65536) → readL b lv l.length (at0 pre) [] acc = (at0 (pre ++ l.flatMap encLink), [], acc ++ l)
  | [], pre, post, acc, _, _ => by simp [readL]
  | x :: l, pre, post, acc, hb, hs => by
    have hx := hs x (List.mem_cons_self ..)
    have e1 := rTxt_enc b pre (by63 x.f1 ++ encN x.f2 ++ l.flatMap encLink ++ post) x.f0 32 (by rw [hb]; simp only [List.flatMap_cons, encLink, List.append_assoc]) (small9 (by omega)) (by omega)
    have e2 := rId_enc b (pre ++ (encN (x.f0.size : Int) ++ bytesOf x.f0)) (encN x.f2 ++ l.flatMap encLink ++ post) (by63 x.f1) (by rw [hb]; simp only [List.flatMap_cons, encLink, List.append_assoc]) rfl
    have e3 := rNum_enc b (pre ++ (encN (x.f0.size : Int) ++ bytesOf x.f0) ++ by63 x.f1) (l.flatMap encLink ++ post) x.f2 1 65536 5 (by rw [hb]; simp only [List.flatMap_cons, encLink, List.append_assoc]) (by omega) (small9 (by omega)) hx.2.1 hx.2.2
    have ih := read_links b lv hlv l (pre ++ encLink x) post (acc ++ [x]) (by rw [hb]; simp only [List.flatMap_cons, List.append_assoc]) (fun y hy => hs y (List.mem_cons_of_mem _ hy))
    rw [List.length_cons, readL, if_pos (show (at0 pre).err = 0 from rfl), if_neg hlv, e1]
    simp only
    rw [e2]
    simp only
    rw [e3]
    simp only [str_bytes, mk63_by]
    rw [show pre ++ (encN (x.f0.size : Int) ++ bytesOf x.f0) ++ by63 x.f1 ++ encN x.f2 = pre ++ encLink x by simp only [encLink, List.append_assoc], ih]
    simp only [List.flatMap_cons, List.append_assoc, List.singleton_append]
theorem end_at (b : List Int) : rEnd b (at0 b) = (0, 0) := by
  unfold rEnd
  rw [if_neg (by simp [at0])]
  rfl
theorem read_back {lv : Int} {l1 : List S55} {l2 : List S66} (h : pageS lv l1 l2 = 0) : readP (pageB lv l1 l2) = ((lv, l1, l2), (0, 0)) := by
  obtain ⟨h0, h20, h16, hk⟩ := page_ok h
  have main : ∀ (b : List Int) (n : Nat) (body : List Int), b = encN lv ++ encN (n : Int) ++ body → n ≤ 16 → readL b lv n (at0 (encN lv ++ encN (n : Int))) [] [] = (at0 b, l1, l2) → readP b = ((lv, l1, l2), (0, 0)) := by
    intro b n body hb hn hr
    have e1 : hd1 b = (lv, at0 (encN lv)) := by
      have := rNum_enc b [] (encN (n : Int) ++ body) lv 0 20 5 (by rw [hb]; simp only [List.nil_append, List.append_assoc]) h0 (small9 (by omega)) h0 h20
      simpa [hd1, at0, rs0] using this
    have e2 : hd2 b = ((n : Int), at0 (encN lv ++ encN (n : Int))) := by
      unfold hd2
      rw [e1]
      exact rNum_enc b (encN lv) body (n : Int) 0 16 3 hb (by omega) (small9 (by omega)) (by omega) (by omega)
    have e3 : items b = (at0 b, l1, l2) := by
      unfold items
      rw [e1, e2]
      simpa using hr
    unfold readP
    rw [e3, e1, end_at]
    simp only [ne_eq, not_true_eq_false, if_false]
    rw [if_neg (by simpa using h)]
  rcases hk with ⟨rfl, rfl, hc⟩ | ⟨hlv, rfl, hc⟩
  · have hp := pair_ok hc
    refine main _ l1.length (l1.flatMap encPair) (by simp [pageB]) (by simp at h16; omega) ?_
    have := read_pairs (pageB 0 l1 []) l1 (encN 0 ++ encN (l1.length : Int)) [] [] (by simp [pageB]) (fun x hx => ⟨keyOk_size (hp x hx).1, (hp x hx).2⟩)
    rw [this]
    simp [pageB]
  · have hp := link_ok hc
    refine main _ l2.length (l2.flatMap encLink) (by simp [pageB, hlv]) (by simp at h16; omega) ?_
    have := read_links (pageB lv [] l2) lv hlv l2 (encN lv ++ encN (l2.length : Int)) [] [] (by simp [pageB, hlv]) (fun x hx => ⟨keyOk_size (hp x hx).1, (hp x hx).2⟩)
    rw [this]
    simp [pageB, hlv]
theorem readL_st {b : List Int} (hB : ∀ x ∈ b, 0 ≤ x ∧ x < 256) (lv : Int) : ∀ (k : Nat) (s : RS) (ps : List S55) (ls : List S66), Stands b s → Stands b (readL b lv k s ps ls).1
  | 0, s, ps, ls, h => h
  | k + 1, s, ps, ls, h => by
    rw [readL]
    split
    · split
      · exact readL_st hB lv k _ _ _ (rTxt_st (rTxt_st h))
      · exact readL_st hB lv k _ _ _ (rNum_st (rId_st (rTxt_st h)) (by decide) hB)
    · exact h
theorem readL_err {b : List Int} {lv : Int} : ∀ (k : Nat) (s : RS) (ps : List S55) (ls : List S66), s.err ≠ 0 → readL b lv k s ps ls = (s, ps, ls)
  | 0, _, _, _, _ => rfl
  | k + 1, s, ps, ls, h => by rw [readL, if_neg h]
theorem readL_pairs {b : List Int} (hB : ∀ x ∈ b, 0 ≤ x ∧ x < 256) : ∀ (k : Nat) (s : RS) (ps : List S55), Stands b s → (readL b 0 k s ps []).1.err = 0 → ∃ l : List S55, l.length = k ∧ (readL b 0 k s ps []).2 = (ps ++ l, []) ∧ s.err = 0 ∧ b.take (readL b 0 k s ps []).1.at_ = b.take s.at_ ++ l.flatMap encPair
  | 0, s, ps, h, he => ⟨[], rfl, by simp [readL], he, by simp [readL]⟩
  | k + 1, s, ps, h, he => by
    by_cases hs : s.err = 0
    · rw [readL, if_pos hs, if_pos rfl] at he ⊢
      have st1 := rTxt_st (most := 32) h
      have st2 := rTxt_st (most := 64) st1
      obtain ⟨l, g1, g2, g3, g4⟩ := readL_pairs hB k _ _ st2 he
      obtain ⟨k1, k2, k3, k4⟩ := rTxt_dec hB st1.1 g3
      obtain ⟨m1, m2, m3, m4⟩ := rTxt_dec hB h.1 k1
      refine ⟨⟨strOfNums (rTxt b s 32).1, strOfNums (rTxt b (rTxt b s 32).2 64).1⟩ :: l, by rw [List.length_cons, g1], by rw [g2, List.append_assoc]; rfl, hs, ?_⟩
      rw [g4, k3, m3]
      simp only [List.flatMap_cons, encPair, strOfNums_size, bytes_str _ m4, bytes_str _ k4, List.append_assoc]
    · rw [readL_err _ _ _ _ hs] at he
      exact absurd he hs
theorem readL_links {b : List Int} (hB : ∀ x ∈ b, 0 ≤ x ∧ x < 256) (lv : Int) (hlv : lv ≠ 0) : ∀ (k : Nat) (s : RS) (ls : List S66), Stands b s → (readL b lv k s [] ls).1.err = 0 → ∃ l : List S66, l.length = k ∧ (readL b lv k s [] ls).2 = ([], ls ++ l) ∧ s.err = 0 ∧ b.take (readL b lv k s [] ls).1.at_ = b.take s.at_ ++ l.flatMap encLink ∧ ∀ x ∈ l, ∀ z ∈ by63 x.f1, 0 ≤ z ∧ z < 256
  | 0, s, ls, h, he => ⟨[], rfl, by simp [readL], he, by simp [readL], by simp⟩
  | k + 1, s, ls, h, he => by
    by_cases hs : s.err = 0
    · rw [readL, if_pos hs, if_neg hlv] at he ⊢
      have st1 := rTxt_st (most := 32) h
      have st2 := rId_st st1
      have st3 := rNum_st (low := 1) (high := 65536) (above := 5) st2 (by decide) hB
      obtain ⟨l, g1, g2, g3, g4, g5⟩ := readL_links hB lv hlv k _ _ st3 he
      obtain ⟨k1, k2, k3, _, k4⟩ := rNum_dec hB (by decide) st2.1 g3
      obtain ⟨i1, i2, i3⟩ := rId_dec k1 st1.1 hB
      obtain ⟨m1, m2, m3, m4⟩ := rTxt_dec hB h.1 i1
      have hid := by63_mk _ (rId_len b (rTxt b s 32).2)
      refine ⟨⟨strOfNums (rTxt b s 32).1, mk63 (rId b (rTxt b s 32).2).1, (rNum b (rId b (rTxt b s 32).2).2 1 65536 5).1⟩ :: l, by rw [List.length_cons, g1], by rw [g2, List.append_assoc]; rfl, hs, ?_, fun x hx => ?_⟩
      · rw [g4, k4, i2, m3]
        simp only [List.flatMap_cons, encLink, strOfNums_size, bytes_str _ m4, hid, List.append_assoc]
      · rcases List.mem_cons.1 hx with rfl | hx
        · intro z hz
          rw [hid] at hz
          exact i3 z hz
        · exact g5 x hx
    · rw [readL_err _ _ _ _ hs] at he
      exact absurd he hs
theorem items_st {b : List Int} (hB : ∀ x ∈ b, 0 ≤ x ∧ x < 256) : Stands b (items b).1 := by
  have s0 : Stands b rs0 := ⟨by simp [rs0], fun h => absurd rfl h⟩
  exact readL_st hB _ _ _ _ _ (rNum_st (rNum_st s0 (by decide) hB) (by decide) hB)
theorem read_place {b : List Int} (hB : ∀ x ∈ b, 0 ≤ x ∧ x < 256) : 0 ≤ (readP b).2.2 ∧ (readP b).2.2 ≤ b.length ∧ ((readP b).2.1 ≠ 0 → (readP b).1 = (0, [], [])) := by
  have st := items_st hB
  unfold readP
  split
  · rename_i h
    refine ⟨?_, ?_, fun _ => rfl⟩
    · unfold rEnd at h ⊢
      split
      · simp
      · rename_i h2
        rw [if_neg h2] at h
        exact (st.2 h).2.1
    · unfold rEnd at h ⊢
      split
      · have := st.1; simp; omega
      · rename_i h2
        rw [if_neg h2] at h
        exact (st.2 h).2.2
  · split
    · exact ⟨by simp, by simp, fun _ => rfl⟩
    · exact ⟨by simp, by simp, fun h => absurd rfl h⟩
theorem read_ok {b : List Int} (hB : ∀ x ∈ b, 0 ≤ x ∧ x < 256) (h : (readP b).2.1 = 0) : pageS (readP b).1.1 (readP b).1.2.1 (readP b).1.2.2 = 0 ∧ pageB (readP b).1.1 (readP b).1.2.1 (readP b).1.2.2 = b ∧ ∀ x ∈ (readP b).1.2.2, ∀ z ∈ by63 x.f1, 0 ≤ z ∧ z < 256 := by
  have s0 : Stands b rs0 := ⟨by simp [rs0], fun h => absurd rfl h⟩
  have st1 : Stands b (hd1 b).2 := rNum_st s0 (by decide) hB
  have st2 : Stands b (hd2 b).2 := rNum_st st1 (by decide) hB
  have st := items_st hB
  unfold readP at h ⊢
  by_cases he : (rEnd b (items b).1).1 ≠ 0
  · rw [if_pos he] at h
    exact absurd h he
  · rw [if_neg he] at h ⊢
    by_cases hp : pageS (hd1 b).1 (items b).2.1 (items b).2.2 ≠ 0
    · rw [if_pos hp] at h
      exact absurd h (by simp)
    · rw [if_neg hp]
      have hp' : pageS (hd1 b).1 (items b).2.1 (items b).2.2 = 0 := by simpa using hp
      have hend : (items b).1.err = 0 ∧ (items b).1.at_ = b.length := by
        have he' : (rEnd b (items b).1).1 = 0 := by simpa using he
        unfold rEnd at he'
        split at he'
        · simp at he'
        · rename_i h2
          have := st.1
          exact ⟨he', by have h3 : ¬ ((items b).1.at_ < b.length) := fun h4 => h2 ⟨he', h4⟩; omega⟩
      have hit : items b = readL b (hd1 b).1 (hd2 b).1.toNat (hd2 b).2 [] [] := rfl
      have hbt : b.take (items b).1.at_ = b := List.take_of_length_le (by omega)
      refine ⟨hp', ?_, ?_⟩
      all_goals by_cases hlv : (hd1 b).1 = 0
      · have he3 := hend.1
        rw [hit, hlv] at he3
        obtain ⟨l, g1, g2, g3, g4⟩ := readL_pairs hB _ _ _ st2 he3
        obtain ⟨k1, k2, k3, k4, k5⟩ := rNum_dec hB (by decide) st1.1 g3
        obtain ⟨m1, m2, m3, m4, m5⟩ := rNum_dec hB (by decide) s0.1 k1
        rw [← hlv, ← hit] at g2 g4
        rw [hbt, show b.take (hd2 b).2.at_ = b.take (hd1 b).2.at_ ++ encN (hd2 b).1 from k5, show b.take (hd1 b).2.at_ = b.take 0 ++ encN (hd1 b).1 from m5] at g4
        have hn : (hd2 b).1 = (l.length : Int) := by have : 0 ≤ (hd2 b).1 := k4; omega
        rw [g2]
        simp only [List.nil_append]
        rw [pageB, if_pos hlv, ← hn]
        exact (g4.trans (by simp)).symm
      · have he3 := hend.1
        rw [hit] at he3
        obtain ⟨l, g1, g2, g3, g4, g5⟩ := readL_links hB _ hlv _ _ _ st2 he3
        obtain ⟨k1, k2, k3, k4, k5⟩ := rNum_dec hB (by decide) st1.1 g3
        obtain ⟨m1, m2, m3, m4, m5⟩ := rNum_dec hB (by decide) s0.1 k1
        rw [← hit] at g2 g4
        rw [hbt, show b.take (hd2 b).2.at_ = b.take (hd1 b).2.at_ ++ encN (hd2 b).1 from k5, show b.take (hd1 b).2.at_ = b.take 0 ++ encN (hd1 b).1 from m5] at g4
        have hn : (hd2 b).1 = (l.length : Int) := by have : 0 ≤ (hd2 b).1 := k4; omega
        rw [g2]
        simp only [List.nil_append]
        rw [pageB, if_neg hlv, ← hn]
        exact (g4.trans (by simp)).symm
      · have he3 := hend.1
        rw [hit, hlv] at he3
        obtain ⟨l, g1, g2, g3, g4⟩ := readL_pairs hB _ _ _ st2 he3
        rw [← hlv, ← hit] at g2
        rw [g2]
        simp
      · have he3 := hend.1
        rw [hit] at he3
        obtain ⟨l, g1, g2, g3, g4, g5⟩ := readL_links hB _ hlv _ _ _ st2 he3
        rw [← hit] at g2
        rw [g2]
        simpa using g5
end Go.Proofs.Ytlgnfbgjdkbfoaa.Pg
namespace Go.Proofs.Ytlgnfbgjdkbfoaa.Pg
open Go.RowKit Go.Proofs.Ytlgnfbgjdkbfoaa.XH Go.Proofs.Ytlgnfbgjdkbfoaa.Wd Go.Proofs.YtlgnfbgjdkbfoaaW.PrintWords Go.Proofs.YtlgnfbgjdkbfoaaW.PrintLast Go.Proofs.YtlgnfbgjdkbfoaaW.PrintMore Go.Proofs.YtlgnfbgjdkbfoaaXe Go.Proofs.YtlgnfbgjdkbfoaaXs
set_option linter.unusedVariables false
set_option linter.unusedSimpArgs false
attribute [local go_sem ↓] Go.wp_at_zero Go.wp_at_succ
theorem long_pairs (l : List S55) (hl : l.length ≤ 9223372036854775807) : ∃ b, Et (fun k => retconkit_LongPairs.f k l 30) b ∧ (b = false → l.length ≤ 30) := by
  have main : ∀ (d j : Nat), j + d = l.length → ∃ b, Et (fun k => retconkit_LongPairs.l0 k l 30 (j : Int)) b ∧ (b = false → l.length ≤ 30) := by
    intro d
    induction d with
    | zero =>
      intro j hj
      refine ⟨decide ((l.length : Int) > 30), Et.succ ?_, fun h => by simp at h; omega⟩
      simp only [retconkit_LongPairs.l0]
      refine Et.neg (by omega) (Et.succ ?_)
      simp only [retconkit_LongPairs.j1]
      exact Et.neg (by decide) (Et.ret _)
    | succ d ih =>
      intro j hj
      by_cases h30 : (j : Int) ≤ 30
      · obtain ⟨b, h1, h2⟩ := ih (j + 1) (by omega)
        by_cases hs : (((rd_T55 l (j : Int)).f0).size : Int) > 100
        · refine ⟨true, Et.succ ?_, fun h => by cases h⟩
          simp only [retconkit_LongPairs.l0]
          refine Et.pos (by omega) (Et.succ ?_)
          simp only [retconkit_LongPairs.j1]
          refine Et.pos (decide_eq_true h30) (Et.pos (by omega) (Et.pos (by omega) (Et.pos hs (Et.succ ?_))))
          simp only [retconkit_LongPairs.j2]
          exact Et.pos trivial (Et.ret _)
        · by_cases hs2 : (((rd_T55 l (j : Int)).f1).size : Int) > 100
          · refine ⟨true, Et.succ ?_, fun h => by cases h⟩
            simp only [retconkit_LongPairs.l0]
            refine Et.pos (by omega) (Et.succ ?_)
            simp only [retconkit_LongPairs.j1]
            refine Et.pos (decide_eq_true h30) (Et.pos (by omega) (Et.pos (by omega) (Et.neg hs (Et.succ ?_))))
            simp only [retconkit_LongPairs.j2]
            exact Et.pos (decide_eq_true hs2) (Et.ret _)
          · refine ⟨b, Et.succ ?_, h2⟩
            simp only [retconkit_LongPairs.l0]
            refine Et.pos (by omega) (Et.succ ?_)
            simp only [retconkit_LongPairs.j1]
            refine Et.pos (decide_eq_true h30) (Et.pos (by omega) (Et.pos (by omega) (Et.neg hs (Et.succ ?_))))
            simp only [retconkit_LongPairs.j2]
            refine Et.neg (by rw [decide_eq_false hs2]; decide) ?_
            rw [wr (by omega)]
            exact h1
      · refine ⟨decide ((l.length : Int) > 30), Et.succ ?_, fun h => by simp at h; omega⟩
        simp only [retconkit_LongPairs.l0]
        refine Et.pos (by omega) (Et.succ ?_)
        simp only [retconkit_LongPairs.j1]
        exact Et.neg (by rw [decide_eq_false h30]; decide) (Et.ret _)
  exact main l.length 0 (by omega)
theorem long_page (lv : Int) (l1 : List S55) (l2 : List S66) (h1 : l1.length ≤ 9223372036854775807) (h2 : l2.length ≤ 9223372036854775807) : ∃ k b, retconkit_LongPage.f k lv l1 l2 = some b ∧ (b = false → l1.length ≤ 30 ∧ l2.length ≤ 30) := by
  obtain ⟨bp, e1, e2⟩ := long_pairs l1 h1
  have fin : ∀ (x3 : Int), ∃ b, Et (fun k => retconkit_LongPage.j1 k x3 false lv l1 l2) b ∧ (b = false → l1.length ≤ 30 ∧ l2.length ≤ 30) := by
    intro x3
    refine ⟨if bp = true then true else decide ((l2.length : Int) > 30), Et.succ ?_, fun h => ?_⟩
    · simp only [retconkit_LongPage.j1]
      refine Et.neg (by decide) ?_
      refine Et.bind e1 ?_
      cases bp with
      | true => exact Et.pos rfl (Et.ret' rfl)
      | false => exact Et.neg (by decide) (Et.ret' rfl)
    · cases bp with
      | true => simp at h
      | false =>
        simp at h
        exact ⟨e2 rfl, by omega⟩
  have main : ∀ (d j : Nat), j + d = l2.length → ∃ b, Et (fun k => retconkit_LongPage.l0 k (j : Int) lv l1 l2) b ∧ (b = false → l1.length ≤ 30 ∧ l2.length ≤ 30) := by
    intro d
    induction d with
    | zero =>
      intro j hj
      obtain ⟨b, g1, g2⟩ := fin (j : Int)
      refine ⟨b, Et.succ ?_, g2⟩
      simp only [retconkit_LongPage.l0]
      exact Et.neg (by omega) g1
    | succ d ih =>
      intro j hj
      by_cases h31 : (j : Int) < 31
      · by_cases hs : (((rd_T66 l2 (j : Int)).f0).size : Int) > 100
        · refine ⟨true, Et.succ ?_, fun h => by cases h⟩
          simp only [retconkit_LongPage.l0]
          refine Et.pos (by omega) (Et.succ ?_)
          simp only [retconkit_LongPage.j1]
          exact Et.pos (decide_eq_true h31) (Et.pos (by omega) (Et.pos (by omega) (Et.pos hs (Et.ret _))))
        · obtain ⟨b, g1, g2⟩ := ih (j + 1) (by omega)
          refine ⟨b, Et.succ ?_, g2⟩
          simp only [retconkit_LongPage.l0]
          refine Et.pos (by omega) (Et.succ ?_)
          simp only [retconkit_LongPage.j1]
          refine Et.pos (decide_eq_true h31) (Et.pos (by omega) (Et.pos (by omega) (Et.neg hs ?_)))
          rw [wr (by omega)]
          exact g1
      · obtain ⟨b, g1, g2⟩ := fin (j : Int)
        refine ⟨b, Et.succ ?_, g2⟩
        simp only [retconkit_LongPage.l0]
        refine Et.pos (by omega) ?_
        rw [decide_eq_false h31]
        exact g1
  obtain ⟨b, g1, g2⟩ := main l2.length 0 (by omega)
  obtain ⟨k, hk⟩ := g1.out
  exact ⟨k, b, hk, g2⟩
theorem same_pairs (l : List S55) (hl : l.length ≤ 9223372036854775807) : Et (fun k => retconkit_SamePairs.f k l l) true := by
  have main : ∀ (d j : Nat), j + d = l.length → Et (fun k => retconkit_SamePairs.l0 k l l (j : Int)) true := by
    intro d
    induction d with
    | zero =>
      intro j hj
      refine Et.succ ?_
      simp only [retconkit_SamePairs.l0]
      exact Et.neg (by omega) (Et.ret _)
    | succ d ih =>
      intro j hj
      refine Et.succ ?_
      simp only [retconkit_SamePairs.l0]
      refine Et.pos (by omega) (Et.pos (by omega) (Et.pos (by omega) (Et.neg (by simp) ?_)))
      rw [wr (by omega)]
      exact ih (j + 1) (by omega)
  unfold retconkit_SamePairs.f
  exact Et.pos rfl (main l.length 0 (by omega))
theorem same_page (lv : Int) (l1 : List S55) (l2 : List S66) (h1 : l1.length ≤ 9223372036854775807) (h2 : l2.length ≤ 9223372036854775807) : ∃ k, retconkit_SamePage.f k lv l1 l2 lv l1 l2 = some true := by
  have main : ∀ (d j : Nat), j + d = l2.length → Et (fun k => retconkit_SamePage.l0 k (j : Int) lv l1 l2 lv l1 l2) true := by
    intro d
    induction d with
    | zero =>
      intro j hj
      refine Et.succ ?_
      simp only [retconkit_SamePage.l0]
      exact Et.neg (by omega) (Et.ret _)
    | succ d ih =>
      intro j hj
      refine Et.succ ?_
      simp only [retconkit_SamePage.l0]
      refine Et.pos (by omega) (Et.pos (by omega) (Et.pos (by omega) (Et.neg (by simp) ?_)))
      rw [wr (by omega)]
      exact ih (j + 1) (by omega)
  have h : Et (fun k => retconkit_SamePage.f k lv l1 l2 lv l1 l2) true := by
    unfold retconkit_SamePage.f
    refine Et.pos rfl (Et.bind (same_pairs l1 h1) (Et.pos rfl (Et.succ ?_)))
    simp only [retconkit_SamePage.j0]
    exact Et.neg (by simp) (main l2.length 0 (by omega))
  exact h.out
theorem pageB_byte {lv : Int} {l1 : List S55} {l2 : List S66} (h : pageS lv l1 l2 = 0) (hby : ∀ x ∈ l2, ∀ z ∈ by63 x.f1, 0 ≤ z ∧ z < 256) : ∀ x ∈ pageB lv l1 l2, 0 ≤ x ∧ x < 256 := by
  obtain ⟨h0, h20, h16, hk⟩ := page_ok h
  have hE : ∀ n : Int, 0 ≤ n → n ≤ 1000000 → ∀ x ∈ encN n, 0 ≤ x ∧ x < 256 := fun n h0 h1 => encF_byte 9 n h0 (Int.lt_of_le_of_lt h1 (by decide))
  intro x hx
  unfold pageB at hx
  split at hx
  · rcases List.mem_append.1 hx with hx | hx
    · rcases List.mem_append.1 hx with hx | hx
      · exact hE _ h0 (by omega) x hx
      · exact hE _ (by omega) (by omega) x hx
    · obtain ⟨p, hp, hx⟩ := List.mem_flatMap.1 hx
      rcases hk with ⟨_, _, hc⟩ | ⟨_, hn, _⟩
      · have hq := pair_ok hc p hp
        have hz := keyOk_size hq.1
        unfold encPair at hx
        rcases List.mem_append.1 hx with hx | hx
        · rcases List.mem_append.1 hx with hx | hx
          · exact hE _ (by omega) (by omega) x hx
          · exact bytesOf_byte _ x hx
        · rcases List.mem_append.1 hx with hx | hx
          · exact hE _ (by omega) (by omega) x hx
          · exact bytesOf_byte _ x hx
      · rw [hn] at hp
        cases hp
  · rcases List.mem_append.1 hx with hx | hx
    · rcases List.mem_append.1 hx with hx | hx
      · exact hE _ h0 (by omega) x hx
      · exact hE _ (by omega) (by omega) x hx
    · obtain ⟨p, hp, hx⟩ := List.mem_flatMap.1 hx
      rcases hk with ⟨_, hn, _⟩ | ⟨_, _, hc⟩
      · rw [hn] at hp
        cases hp
      · have hq := link_ok hc p hp
        have hz := keyOk_size hq.1
        unfold encLink at hx
        rcases List.mem_append.1 hx with hx | hx
        · rcases List.mem_append.1 hx with hx | hx
          · exact hE _ (by omega) (by omega) x hx
          · exact bytesOf_byte _ x hx
        · rcases List.mem_append.1 hx with hx | hx
          · exact hby p hp x hx
          · exact hE _ (by omega) (by omega) x hx
theorem pageB_len {lv : Int} {l1 : List S55} {l2 : List S66} (h : pageS lv l1 l2 = 0) : (pageB lv l1 l2).length ≤ 1000000 := by
  obtain ⟨h0, h20, h16, hk⟩ := page_ok h
  have a := encN_len lv
  unfold pageB
  split
  · have b := encN_len (l1.length : Int)
    have c : (l1.flatMap encPair).length ≤ 2100 * l1.length := flat_len encPair 2100 l1 fun x hx => by
      rcases hk with ⟨_, _, hc⟩ | ⟨_, hn, _⟩
      · have hq := pair_ok hc x hx
        have := keyOk_size hq.1
        exact encPair_len x (by omega) (by omega)
      · rw [hn] at hx
        cases hx
    simp only [List.length_append]
    omega
  · have b := encN_len (l2.length : Int)
    have c : (l2.flatMap encLink).length ≤ 2100 * l2.length := flat_len encLink 2100 l2 fun x hx => by
      rcases hk with ⟨_, hn, _⟩ | ⟨_, _, hc⟩
      · rw [hn] at hx
        cases hx
      · have hq := link_ok hc x hx
        have := keyOk_size hq.1
        exact encLink_len x (by omega)
    simp only [List.length_append]
    omega
theorem page_pairs {lv : Int} {l1 : List S55} {l2 : List S66} (h : pageS lv l1 l2 = 0) : checkS l1 = 0 := by
  obtain ⟨_, _, _, hk⟩ := page_ok h
  rcases hk with ⟨_, _, hc⟩ | ⟨_, hn, _⟩
  · exact hc
  · rw [hn]
    rfl
end Go.Proofs.Ytlgnfbgjdkbfoaa.Pg
namespace Go.Proofs.Ytlgnfbgjdkbfoaa.Pg
open Go.RowKit Go.Proofs.Ytlgnfbgjdkbfoaa.XH Go.Proofs.Ytlgnfbgjdkbfoaa.Wd Go.Proofs.YtlgnfbgjdkbfoaaW.PrintWords Go.Proofs.YtlgnfbgjdkbfoaaW.PrintLast Go.Proofs.YtlgnfbgjdkbfoaaW.PrintMore Go.Proofs.YtlgnfbgjdkbfoaaXe Go.Proofs.YtlgnfbgjdkbfoaaXs
set_option linter.unusedVariables false
set_option linter.unusedSimpArgs false
attribute [local go_sem ↓] Go.wp_at_zero Go.wp_at_succ
set_option maxHeartbeats 8000000 in
set_option maxRecDepth 100000 in
theorem pageBack_law (lv : Int) (A1 : Option Addr) (c1 : Nat) (l1 : List S55) (A2 : Option Addr) (c2 : Nat) (l2 : List S66) (Ab : Option Addr) (cb : Nat) (bb_ : List Int) (W : World) (h1 : k55.C W A1 l1.length l1) (h2 : k66.C W A2 l2.length l2) (hc1 : l1.length ≤ c1) (hc2 : l2.length ≤ c2) (hl1 : l1.length ≤ 9223372036854775807) (hl2 : l2.length ≤ 9223372036854775807) (hby : ∀ x ∈ l2, ∀ z ∈ by63 x.f1, 0 ≤ z ∧ z < 256)
    (hrb : (Kd.int .u8).C W Ab bb_.length bb_) (hcb : bb_.length ≤ cb) (hbb : ∀ x ∈ bb_, 0 ≤ x ∧ x < 256) (hlb : bb_.length ≤ 140737488355328) :
    Calls Try.prog 4 #[.agg #[.int .i64 lv, .slice A1 l1.length c1, .slice A2 l2.length c2], .slice Ab bb_.length cb] W fun e W' => e = .returned (.bool true) ∧ Below W.heap.size W W' := by
  have H1 := Aside0.mk h1
  have H2 := Aside0.mk h2
  have HC := Aside0.mk (And.intro hc1 hc2)
  have HL := Aside0.mk (And.intro hl1 hl2)
  have HBY := Aside0.mk hby
  have HRB := Aside0.mk hrb
  have HCB := Aside0.mk hcb
  have HBB := Aside0.mk hbb
  have HBL := Aside0.mk hlb
  have HP := Aside0.mk (Hp.start W)
  clear h1 h2 hc1 hc2 hl1 hl2 hby hrb hcb hbb hlb
  go_enter Try.func4, Try.ntmps4
  go_wp2_with (first | ((with_reducible refine gate_dst (N := 2) rfl ?_); refine ev_box rfl 27 (.tmp 0) rfl (#[.int .i64 lv, .slice A1 l1.length c1, .slice A2 l2.length c2]) rfl ?_; intro g2 wa hge hg hb; have HPn := Aside0.mk (HP.out.newB hb hg hge); clear HP; have HP := HPn; clear HPn; clear hge hg hb))
  refine (c_awake _).mono ?_; rintro e wb ⟨rfl, hb⟩
  have HPn := Aside0.mk (HP.out.call hb)
  clear HP hb
  have HP := HPn
  clear HPn
  go_wp2_with (first | ((with_reducible refine gate_dst (N := 15) rfl ?_); refine ev_load rfl 27 (.tmp 2) rfl g2 rfl (HP.out.blk 0 rfl) Try.underlying27 rfl (by kernel_rfl) ?_))
  obtain ⟨kk, bl, hlk, hlf⟩ := long_page lv l1 l2 HL.out.1 HL.out.2
  have HLF := Aside0.mk hlf
  have HLK := Aside0.mk (retconkit_LongPage.calls kk lv A1 c1 l1 A2 c2 l2 bl wb (Kd.C_below H1.out HP.out.below) HC.out.1 (Kd.C_below H2.out HP.out.below) HC.out.2 hlk)
  clear hlk hlf
  refine HLK.out.mono ?_; rintro e wc ⟨rfl, hb⟩
  clear HLK
  have HPn := Aside0.mk (HP.out.call hb)
  clear HP hb
  have HP := HPn
  clear HPn
  cases bl with
  | true =>
    go_wp2_with fail
    go_ret
    exact ⟨rfl, HP.out.below⟩
  | false =>
    have HLE := Aside0.mk (HLF.out rfl)
    by_cases hb2 : bb_.length > 2000
    · have k1 : decide ((2000 : Int) < (bb_.length : Int)) = true := decide_eq_true (by omega)
      have k2 : decide (2000 < bb_.length) = true := decide_eq_true hb2
      clear hb2
      go_wp2_with fail
      go_ret
      exact ⟨rfl, HP.out.below⟩
    have k1 : decide ((2000 : Int) < (bb_.length : Int)) = false := decide_eq_false (by omega)
    have k2 : decide (2000 < bb_.length) = false := decide_eq_false hb2
    clear hb2
    go_wp2_with (first | ((with_reducible refine gate_dst (N := 24) rfl ?_); refine ev_load rfl 27 (.tmp 2) rfl g2 rfl (HP.out.blk 0 rfl) Try.underlying27 rfl (by kernel_rfl) ?_))
    refine (c_bytes lv A1 c1 l1 A2 c2 l2 wc (Kd.C_below H1.out HP.out.below) (Kd.C_below H2.out HP.out.below) HC.out.1 HC.out.2 (by have := HLE.out; omega) (by have := HLE.out; omega) HBY.out).mono ?_
    rintro e wd ⟨v, rfl, ho, hb⟩
    have HPn := Aside0.mk (HP.out.newR hb ho)
    clear HP ho hb
    have HP := HPn
    clear HPn
    obtain ⟨Ax, cx, rfl⟩ := Kd.R_slice (HP.out.row 0 rfl)
    go_wp2_with (first | ((with_reducible refine gate_dst (N := 29) rfl ?_); refine ev_load rfl 27 (.tmp 2) rfl g2 rfl (HP.out.blk 1 rfl) Try.underlying27 rfl (by kernel_rfl) ?_))
    refine (c_pcheck lv A1 c1 l1 A2 c2 l2 wd (Kd.C_below H1.out HP.out.below) (Kd.C_below H2.out HP.out.below) HC.out.1 HC.out.2 (by have := HLE.out; omega) (by have := HLE.out; omega)).mono ?_
    rintro e we ⟨rfl, hb⟩
    have HPn := Aside0.mk (HP.out.call hb)
    clear HP hb
    have HP := HPn
    clear HPn
    obtain ⟨q, hq⟩ : ∃ q, pageS lv l1 l2 = q := ⟨_, rfl⟩
    rw [hq]
    have HQ := Aside0.mk hq
    clear hq
    have e1 : (q != q) = false := by simp
    have e2 : (q == q) = true := by simp
    have e3 : decide (q = q) = true := decide_eq_true rfl
    by_cases h0 : q = 0
    · subst h0
      rw [outB_ok HQ.out] at HP ⊢
      have HXL := Aside0.mk (pageB_len HQ.out)
      have HXB := Aside0.mk (pageB_byte HQ.out HBY.out)
      have HRX := Aside0.mk (read_back HQ.out)
      obtain ⟨X, hX⟩ : ∃ X, pageB lv l1 l2 = X := ⟨_, rfl⟩
      rw [hX] at HP HXL HXB HRX ⊢
      clear hX
      obtain ⟨ks, hks⟩ := same_page lv l1 l2 HL.out.1 HL.out.2
      have HKS := Aside0.mk hks
      clear hks
      go_wp2_with fail
      refine (c_read HP.out Ax cx X (by have := HXL.out; omega) HXB.out (fun w' h => (Kd.R_reads' (h.row 0 rfl)).2.2)).mono ?_
      rw [HRX.out]
      rintro e wf ⟨vp, vl, rfl, hpn⟩
      clear HP
      have HP := Aside0.mk hpn
      clear hpn
      obtain ⟨Ay, cy, rfl⟩ := Kd.R_slice (HP.out.row 0 rfl)
      obtain ⟨Az, cz, rfl⟩ := Kd.R_slice (HP.out.row 1 rfl)
      go_wp2_with (first | ((with_reducible refine gate_dst (N := 8) rfl ?_); refine ev_alloc rfl 27 rfl (.agg #[.int .i64 0, .slice none 0 0, .slice none 0 0]) (by kernel_rfl) ?_; intro gp wq1 hge hg hb; have HPn := Aside0.mk (HP.out.newB hb hg hge); clear HP; have HP := HPn; clear HPn; clear hge hg hb) | ((with_reducible refine gate_dst (N := 9) rfl ?_); refine ev_alloc rfl 30 rfl (.agg #[.int .i64 0, .int .i64 0]) (by kernel_rfl) ?_; intro gf wq2 hge hg hb; have HPn := Aside0.mk (HP.out.newB hb hg hge); clear HP; have HP := HPn; clear HPn; clear hge hg hb) | ((with_reducible refine gate_store (t := 27) (p := 8) rfl ?_); refine ev_store rfl 27 (.tmp 8) (.tmp 37) rfl rfl _ rfl (cells := #[.int .i64 (lv), .slice Ay l1.length cy, .slice Az l2.length cz]) rfl (HP.out.blk 1 rfl) (by kernel_rfl) rfl (by simp [Value.oneCell']) ?_; intro wq3 hg hgr; have HPn := Aside0.mk (HP.out.setB 1 rfl hgr hg); clear HP; have HP := HPn; clear HPn; clear hg hgr) | ((with_reducible refine gate_store (t := 30) (p := 9) rfl ?_); refine ev_store rfl 30 (.tmp 9) (.tmp 38) rfl rfl _ rfl (cells := #[.int .i64 (0), .int .i64 (0)]) rfl (HP.out.blk 0 rfl) (by kernel_rfl) rfl (by simp [Value.oneCell']) ?_; intro wq4 hg hgr; have HPn := Aside0.mk (HP.out.setB 0 rfl hgr hg); clear HP; have HP := HPn; clear HPn; clear hg hgr; have hf0 : wq4.cell? ⟨gf, 0, none⟩ = some (.int .i64 (0)) := blk_cell (HP.out.blk 0 rfl) 0; have hf1 : wq4.cell? ⟨gf, 1, none⟩ = some (.int .i64 (0)) := blk_cell (HP.out.blk 0 rfl) 1) | ((with_reducible refine gate_dst (N := 43) rfl ?_); refine ev_load rfl 27 (.tmp 2) rfl g2 rfl (HP.out.blk 5 rfl) Try.underlying27 rfl (by kernel_rfl) ?_) | ((with_reducible refine gate_dst (N := 44) rfl ?_); refine ev_load rfl 27 (.tmp 8) rfl gp rfl (HP.out.blk 1 rfl) Try.underlying27 rfl (by kernel_rfl) ?_))
      refine (retconkit_SamePage.calls ks lv A1 c1 l1 A2 c2 l2 lv Ay cy l1 Az cz l2 true _ (Kd.C_below H1.out HP.out.below) HC.out.1 (Kd.C_below H2.out HP.out.below) HC.out.2 (Kd.R_reads' (HP.out.row 2 rfl)).2.2 (Kd.R_reads' (HP.out.row 2 rfl)).2.1 (Kd.R_reads' (HP.out.row 3 rfl)).2.2 (Kd.R_reads' (HP.out.row 3 rfl)).2.1 HKS.out).mono ?_; rintro e wg ⟨rfl, hb⟩
      clear hf0 hf1
      have HPn := Aside0.mk (HP.out.call hb)
      clear HP hb
      have HP := HPn
      clear HPn
      have HPn := Aside0.mk (Hp.dropN [_, _, _, _, _] HP.out)
      clear HP
      have HP := HPn
      clear HPn
      go_wp2_with fail
      refine (c_read HP.out Ab cb bb_ HBL.out HBB.out (fun w' h => Kd.C_below HRB.out h.below)).mono ?_; rintro e wr1 ⟨vp, vl, rfl, hpn⟩
      clear HP
      have HP := Aside0.mk hpn
      clear hpn
      obtain ⟨Ap, cp, rfl⟩ := Kd.R_slice (HP.out.row 0 rfl)
      obtain ⟨Aq, cq, rfl⟩ := Kd.R_slice (HP.out.row 1 rfl)
      have HPL := Aside0.mk (read_place HBB.out)
      have HOK := Aside0.mk (fun h => read_ok HBB.out h)
      obtain ⟨⟨⟨v', ps⟩, ⟨fx, fy⟩⟩, hrp⟩ : ∃ z, ((((readP bb_).1.1, (readP bb_).1.2), ((readP bb_).2.1, (readP bb_).2.2)) : (Int × (List S55 × List S66)) × (Int × Int)) = z := ⟨_, rfl⟩
      obtain ⟨ps, ls⟩ := ps
      have r1 : (readP bb_).1.1 = v' := congrArg (fun z => z.1.1) hrp
      have r2 : (readP bb_).1.2.1 = ps := congrArg (fun z => z.1.2.1) hrp
      have r3 : (readP bb_).1.2.2 = ls := congrArg (fun z => z.1.2.2) hrp
      have r4 : (readP bb_).2.1 = fx := congrArg (fun z => z.2.1) hrp
      have r5 : (readP bb_).2.2 = fy := congrArg (fun z => z.2.2) hrp
      rw [r1, r2, r3, r4] at HOK
      rw [r4, r5] at HPL
      rw [r2, r3] at HP
      rw [r1, r2, r3, r4, r5]
      clear hrp r1 r2 r3 r4 r5
      by_cases hfx : fx = 0
      case neg =>
        have k1 : (fx != 0) = true := by simpa using hfx
        have k2 : (fx == 0) = false := by simpa using hfx
        have k3 : decide (fx = 0) = false := decide_eq_false hfx
        have k4 : decide (0 ≤ fy) = true := decide_eq_true HPL.out.1
        have k5 : decide (fy ≤ (bb_.length : Int)) = true := decide_eq_true HPL.out.2.1
        clear hfx
        go_wp2_with (first | ((with_reducible refine gate_dst (N := 10) rfl ?_); refine ev_alloc rfl 27 rfl (.agg #[.int .i64 0, .slice none 0 0, .slice none 0 0]) (by kernel_rfl) ?_; intro gp wq1 hge hg hb; have HPn := Aside0.mk (HP.out.newB hb hg hge); clear HP; have HP := HPn; clear HPn; clear hge hg hb) | ((with_reducible refine gate_dst (N := 11) rfl ?_); refine ev_alloc rfl 30 rfl (.agg #[.int .i64 0, .int .i64 0]) (by kernel_rfl) ?_; intro gf wq2 hge hg hb; have HPn := Aside0.mk (HP.out.newB hb hg hge); clear HP; have HP := HPn; clear HPn; clear hge hg hb) | ((with_reducible refine gate_store (t := 27) (p := 10) rfl ?_); refine ev_store rfl 27 (.tmp 10) (.tmp 51) rfl rfl _ rfl (cells := #[.int .i64 (v'), .slice Ap ps.length cp, .slice Aq ls.length cq]) rfl (HP.out.blk 1 rfl) (by kernel_rfl) rfl (by simp [Value.oneCell']) ?_; intro wq3 hg hgr; have HPn := Aside0.mk (HP.out.setB 1 rfl hgr hg); clear HP; have HP := HPn; clear HPn; clear hg hgr) | ((with_reducible refine gate_store (t := 30) (p := 11) rfl ?_); refine ev_store rfl 30 (.tmp 11) (.tmp 52) rfl rfl _ rfl (cells := #[.int .i64 (fx), .int .i64 (fy)]) rfl (HP.out.blk 0 rfl) (by kernel_rfl) rfl (by simp [Value.oneCell']) ?_; intro wq4 hg hgr; have HPn := Aside0.mk (HP.out.setB 0 rfl hgr hg); clear HP; have HP := HPn; clear HPn; clear hg hgr; have hf0 : wq4.cell? ⟨gf, 0, none⟩ = some (.int .i64 (fx)) := blk_cell (HP.out.blk 0 rfl) 0; have hf1 : wq4.cell? ⟨gf, 1, none⟩ = some (.int .i64 (fy)) := blk_cell (HP.out.blk 0 rfl) 1))
        go_ret
        exact ⟨rfl, HP.out.below⟩
      have k1 : (fx != 0) = false := by simpa using hfx
      have k2 : (fx == 0) = true := by simpa using hfx
      have k3 : decide (fx = 0) = true := decide_eq_true hfx
      obtain ⟨hpg, hpb, hids⟩ := HOK.out hfx
      have HPG := Aside0.mk hpg
      have HPB := Aside0.mk hpb
      have HID := Aside0.mk hids
      have HP16 := Aside0.mk (page_ok hpg).2.2.1
      clear hfx hpg hpb hids HOK
      go_wp2_with (first | ((with_reducible refine gate_dst (N := 10) rfl ?_); refine ev_alloc rfl 27 rfl (.agg #[.int .i64 0, .slice none 0 0, .slice none 0 0]) (by kernel_rfl) ?_; intro gp wq1 hge hg hb; have HPn := Aside0.mk (HP.out.newB hb hg hge); clear HP; have HP := HPn; clear HPn; clear hge hg hb) | ((with_reducible refine gate_dst (N := 11) rfl ?_); refine ev_alloc rfl 30 rfl (.agg #[.int .i64 0, .int .i64 0]) (by kernel_rfl) ?_; intro gf wq2 hge hg hb; have HPn := Aside0.mk (HP.out.newB hb hg hge); clear HP; have HP := HPn; clear HPn; clear hge hg hb) | ((with_reducible refine gate_store (t := 27) (p := 10) rfl ?_); refine ev_store rfl 27 (.tmp 10) (.tmp 51) rfl rfl _ rfl (cells := #[.int .i64 (v'), .slice Ap ps.length cp, .slice Aq ls.length cq]) rfl (HP.out.blk 1 rfl) (by kernel_rfl) rfl (by simp [Value.oneCell']) ?_; intro wq3 hg hgr; have HPn := Aside0.mk (HP.out.setB 1 rfl hgr hg); clear HP; have HP := HPn; clear HPn; clear hg hgr) | ((with_reducible refine gate_store (t := 30) (p := 11) rfl ?_); refine ev_store rfl 30 (.tmp 11) (.tmp 52) rfl rfl _ rfl (cells := #[.int .i64 (fx), .int .i64 (fy)]) rfl (HP.out.blk 0 rfl) (by kernel_rfl) rfl (by simp [Value.oneCell']) ?_; intro wq4 hg hgr; have HPn := Aside0.mk (HP.out.setB 0 rfl hgr hg); clear HP; have HP := HPn; clear HPn; clear hg hgr; have hf0 : wq4.cell? ⟨gf, 0, none⟩ = some (.int .i64 (fx)) := blk_cell (HP.out.blk 0 rfl) 0; have hf1 : wq4.cell? ⟨gf, 1, none⟩ = some (.int .i64 (fy)) := blk_cell (HP.out.blk 0 rfl) 1) | ((with_reducible refine gate_dst (N := 70) rfl ?_); refine ev_load rfl 27 (.tmp 10) rfl gp rfl (HP.out.blk 1 rfl) Try.underlying27 rfl (by kernel_rfl) ?_))
      refine (c_bytes v' Ap cp ps Aq cq ls wq4 (Kd.R_reads' (HP.out.row 2 rfl)).2.2 (Kd.R_reads' (HP.out.row 3 rfl)).2.2 (Kd.R_reads' (HP.out.row 2 rfl)).2.1 (Kd.R_reads' (HP.out.row 3 rfl)).2.1 (by have := HP16.out; omega) (by have := HP16.out; omega) HID.out).mono ?_
      rw [HPG.out, outB_ok HPG.out, HPB.out]
      rintro e wd1 ⟨vd, rfl, ho, hb⟩
      have HPn := Aside0.mk (HP.out.newR hb ho)
      clear HP ho hb hf0 hf1
      have HP := HPn
      clear HPn
      obtain ⟨Ad, cd, rfl⟩ := Kd.R_slice (HP.out.row 0 rfl)
      go_wp2_with (first | ((with_reducible refine gate_dst (N := 80) rfl ?_); refine ev_load rfl 27 (.tmp 10) rfl gp rfl (HP.out.blk 2 rfl) Try.underlying27 rfl (by kernel_rfl) ?_))
      refine (c_pcheck v' Ap cp ps Aq cq ls _ (Kd.R_reads' (HP.out.row 3 rfl)).2.2 (Kd.R_reads' (HP.out.row 4 rfl)).2.2 (Kd.R_reads' (HP.out.row 3 rfl)).2.1 (Kd.R_reads' (HP.out.row 4 rfl)).2.1 (by have := HP16.out; omega) (by have := HP16.out; omega)).mono ?_
      rw [HPG.out]
      rintro e wd2 ⟨rfl, hb⟩
      have HPn := Aside0.mk (HP.out.call hb)
      clear HP hb
      have HP := HPn
      clear HPn
      go_wp2_with fail
      refine (retconkit_SameBytes.calls Ad cd bb_ Ab cb bb_ true _ (Kd.R_reads' (HP.out.row 0 rfl)).2.2 (Kd.R_reads' (HP.out.row 0 rfl)).2.1 (Kd.C_below HRB.out HP.out.below) HCB.out (by rw [sb_f]; simp)).mono ?_; rintro e w_ ⟨rfl, n5, rfl⟩
      have HPn := Aside0.mk (HP.out.drewN n5)
      clear HP
      have HP := HPn
      clear HPn
      have hq1 : (wd2.drewN n5).cell? ⟨gp, 1, none⟩ = some (.slice Ap ps.length cp) := blk_cell (HP.out.blk 2 rfl) 1
      go_wp2_with fail
      refine (c_check Ap cp ps _ (Kd.R_reads' (HP.out.row 3 rfl)).2.2 (Kd.R_reads' (HP.out.row 3 rfl)).2.1 (by have := HP16.out; omega)).mono ?_
      rw [page_pairs HPG.out]
      rintro e wd3 ⟨rfl, hb⟩
      clear hq1
      have HPn := Aside0.mk (HP.out.call hb)
      clear HP hb
      have HP := HPn
      clear HPn
      go_wp2_with fail
      go_ret
      exact ⟨rfl, HP.out.below⟩
    · have d1 : (q == 0) = false := by simpa using h0
      have d2 : (q != 0) = true := by simpa using h0
      have d3 : decide (q = 0) = false := decide_eq_false h0
      clear h0
      have HPn := Aside0.mk (Hp.drop1 HP.out)
      clear HP
      have HP := HPn
      clear HPn
      go_wp2_with fail
      refine (c_read HP.out Ab cb bb_ HBL.out HBB.out (fun w' h => Kd.C_below HRB.out h.below)).mono ?_; rintro e wr1 ⟨vp, vl, rfl, hpn⟩
      clear HP
      have HP := Aside0.mk hpn
      clear hpn
      obtain ⟨Ap, cp, rfl⟩ := Kd.R_slice (HP.out.row 0 rfl)
      obtain ⟨Aq, cq, rfl⟩ := Kd.R_slice (HP.out.row 1 rfl)
      have HPL := Aside0.mk (read_place HBB.out)
      have HOK := Aside0.mk (fun h => read_ok HBB.out h)
      obtain ⟨⟨⟨v', ps⟩, ⟨fx, fy⟩⟩, hrp⟩ : ∃ z, ((((readP bb_).1.1, (readP bb_).1.2), ((readP bb_).2.1, (readP bb_).2.2)) : (Int × (List S55 × List S66)) × (Int × Int)) = z := ⟨_, rfl⟩
      obtain ⟨ps, ls⟩ := ps
      have r1 : (readP bb_).1.1 = v' := congrArg (fun z => z.1.1) hrp
      have r2 : (readP bb_).1.2.1 = ps := congrArg (fun z => z.1.2.1) hrp
      have r3 : (readP bb_).1.2.2 = ls := congrArg (fun z => z.1.2.2) hrp
      have r4 : (readP bb_).2.1 = fx := congrArg (fun z => z.2.1) hrp
      have r5 : (readP bb_).2.2 = fy := congrArg (fun z => z.2.2) hrp
      rw [r1, r2, r3, r4] at HOK
      rw [r4, r5] at HPL
      rw [r2, r3] at HP
      rw [r1, r2, r3, r4, r5]
      clear hrp r1 r2 r3 r4 r5
      by_cases hfx : fx = 0
      case neg =>
        have k1 : (fx != 0) = true := by simpa using hfx
        have k2 : (fx == 0) = false := by simpa using hfx
        have k3 : decide (fx = 0) = false := decide_eq_false hfx
        have k4 : decide (0 ≤ fy) = true := decide_eq_true HPL.out.1
        have k5 : decide (fy ≤ (bb_.length : Int)) = true := decide_eq_true HPL.out.2.1
        clear hfx
        go_wp2_with (first | ((with_reducible refine gate_dst (N := 10) rfl ?_); refine ev_alloc rfl 27 rfl (.agg #[.int .i64 0, .slice none 0 0, .slice none 0 0]) (by kernel_rfl) ?_; intro gp wq1 hge hg hb; have HPn := Aside0.mk (HP.out.newB hb hg hge); clear HP; have HP := HPn; clear HPn; clear hge hg hb) | ((with_reducible refine gate_dst (N := 11) rfl ?_); refine ev_alloc rfl 30 rfl (.agg #[.int .i64 0, .int .i64 0]) (by kernel_rfl) ?_; intro gf wq2 hge hg hb; have HPn := Aside0.mk (HP.out.newB hb hg hge); clear HP; have HP := HPn; clear HPn; clear hge hg hb) | ((with_reducible refine gate_store (t := 27) (p := 10) rfl ?_); refine ev_store rfl 27 (.tmp 10) (.tmp 51) rfl rfl _ rfl (cells := #[.int .i64 (v'), .slice Ap ps.length cp, .slice Aq ls.length cq]) rfl (HP.out.blk 1 rfl) (by kernel_rfl) rfl (by simp [Value.oneCell']) ?_; intro wq3 hg hgr; have HPn := Aside0.mk (HP.out.setB 1 rfl hgr hg); clear HP; have HP := HPn; clear HPn; clear hg hgr) | ((with_reducible refine gate_store (t := 30) (p := 11) rfl ?_); refine ev_store rfl 30 (.tmp 11) (.tmp 52) rfl rfl _ rfl (cells := #[.int .i64 (fx), .int .i64 (fy)]) rfl (HP.out.blk 0 rfl) (by kernel_rfl) rfl (by simp [Value.oneCell']) ?_; intro wq4 hg hgr; have HPn := Aside0.mk (HP.out.setB 0 rfl hgr hg); clear HP; have HP := HPn; clear HPn; clear hg hgr; have hf0 : wq4.cell? ⟨gf, 0, none⟩ = some (.int .i64 (fx)) := blk_cell (HP.out.blk 0 rfl) 0; have hf1 : wq4.cell? ⟨gf, 1, none⟩ = some (.int .i64 (fy)) := blk_cell (HP.out.blk 0 rfl) 1))
        go_ret
        exact ⟨rfl, HP.out.below⟩
      have k1 : (fx != 0) = false := by simpa using hfx
      have k2 : (fx == 0) = true := by simpa using hfx
      have k3 : decide (fx = 0) = true := decide_eq_true hfx
      obtain ⟨hpg, hpb, hids⟩ := HOK.out hfx
      have HPG := Aside0.mk hpg
      have HPB := Aside0.mk hpb
      have HID := Aside0.mk hids
      have HP16 := Aside0.mk (page_ok hpg).2.2.1
      clear hfx hpg hpb hids HOK
      go_wp2_with (first | ((with_reducible refine gate_dst (N := 10) rfl ?_); refine ev_alloc rfl 27 rfl (.agg #[.int .i64 0, .slice none 0 0, .slice none 0 0]) (by kernel_rfl) ?_; intro gp wq1 hge hg hb; have HPn := Aside0.mk (HP.out.newB hb hg hge); clear HP; have HP := HPn; clear HPn; clear hge hg hb) | ((with_reducible refine gate_dst (N := 11) rfl ?_); refine ev_alloc rfl 30 rfl (.agg #[.int .i64 0, .int .i64 0]) (by kernel_rfl) ?_; intro gf wq2 hge hg hb; have HPn := Aside0.mk (HP.out.newB hb hg hge); clear HP; have HP := HPn; clear HPn; clear hge hg hb) | ((with_reducible refine gate_store (t := 27) (p := 10) rfl ?_); refine ev_store rfl 27 (.tmp 10) (.tmp 51) rfl rfl _ rfl (cells := #[.int .i64 (v'), .slice Ap ps.length cp, .slice Aq ls.length cq]) rfl (HP.out.blk 1 rfl) (by kernel_rfl) rfl (by simp [Value.oneCell']) ?_; intro wq3 hg hgr; have HPn := Aside0.mk (HP.out.setB 1 rfl hgr hg); clear HP; have HP := HPn; clear HPn; clear hg hgr) | ((with_reducible refine gate_store (t := 30) (p := 11) rfl ?_); refine ev_store rfl 30 (.tmp 11) (.tmp 52) rfl rfl _ rfl (cells := #[.int .i64 (fx), .int .i64 (fy)]) rfl (HP.out.blk 0 rfl) (by kernel_rfl) rfl (by simp [Value.oneCell']) ?_; intro wq4 hg hgr; have HPn := Aside0.mk (HP.out.setB 0 rfl hgr hg); clear HP; have HP := HPn; clear HPn; clear hg hgr; have hf0 : wq4.cell? ⟨gf, 0, none⟩ = some (.int .i64 (fx)) := blk_cell (HP.out.blk 0 rfl) 0; have hf1 : wq4.cell? ⟨gf, 1, none⟩ = some (.int .i64 (fy)) := blk_cell (HP.out.blk 0 rfl) 1) | ((with_reducible refine gate_dst (N := 70) rfl ?_); refine ev_load rfl 27 (.tmp 10) rfl gp rfl (HP.out.blk 1 rfl) Try.underlying27 rfl (by kernel_rfl) ?_))
      refine (c_bytes v' Ap cp ps Aq cq ls wq4 (Kd.R_reads' (HP.out.row 2 rfl)).2.2 (Kd.R_reads' (HP.out.row 3 rfl)).2.2 (Kd.R_reads' (HP.out.row 2 rfl)).2.1 (Kd.R_reads' (HP.out.row 3 rfl)).2.1 (by have := HP16.out; omega) (by have := HP16.out; omega) HID.out).mono ?_
      rw [HPG.out, outB_ok HPG.out, HPB.out]
      rintro e wd1 ⟨vd, rfl, ho, hb⟩
      have HPn := Aside0.mk (HP.out.newR hb ho)
      clear HP ho hb hf0 hf1
      have HP := HPn
      clear HPn
      obtain ⟨Ad, cd, rfl⟩ := Kd.R_slice (HP.out.row 0 rfl)
      go_wp2_with (first | ((with_reducible refine gate_dst (N := 80) rfl ?_); refine ev_load rfl 27 (.tmp 10) rfl gp rfl (HP.out.blk 2 rfl) Try.underlying27 rfl (by kernel_rfl) ?_))
      refine (c_pcheck v' Ap cp ps Aq cq ls _ (Kd.R_reads' (HP.out.row 3 rfl)).2.2 (Kd.R_reads' (HP.out.row 4 rfl)).2.2 (Kd.R_reads' (HP.out.row 3 rfl)).2.1 (Kd.R_reads' (HP.out.row 4 rfl)).2.1 (by have := HP16.out; omega) (by have := HP16.out; omega)).mono ?_
      rw [HPG.out]
      rintro e wd2 ⟨rfl, hb⟩
      have HPn := Aside0.mk (HP.out.call hb)
      clear HP hb
      have HP := HPn
      clear HPn
      go_wp2_with fail
      refine (retconkit_SameBytes.calls Ad cd bb_ Ab cb bb_ true _ (Kd.R_reads' (HP.out.row 0 rfl)).2.2 (Kd.R_reads' (HP.out.row 0 rfl)).2.1 (Kd.C_below HRB.out HP.out.below) HCB.out (by rw [sb_f]; simp)).mono ?_; rintro e w_ ⟨rfl, n5, rfl⟩
      have HPn := Aside0.mk (HP.out.drewN n5)
      clear HP
      have HP := HPn
      clear HPn
      have hq1 : (wd2.drewN n5).cell? ⟨gp, 1, none⟩ = some (.slice Ap ps.length cp) := blk_cell (HP.out.blk 2 rfl) 1
      go_wp2_with fail
      refine (c_check Ap cp ps _ (Kd.R_reads' (HP.out.row 3 rfl)).2.2 (Kd.R_reads' (HP.out.row 3 rfl)).2.1 (by have := HP16.out; omega)).mono ?_
      rw [page_pairs HPG.out]
      rintro e wd3 ⟨rfl, hb⟩
      clear hq1
      have HPn := Aside0.mk (HP.out.call hb)
      clear HP hb
      have HP := HPn
      clear HPn
      go_wp2_with fail
      go_ret
      exact ⟨rfl, HP.out.below⟩
end Go.Proofs.Ytlgnfbgjdkbfoaa.Pg
