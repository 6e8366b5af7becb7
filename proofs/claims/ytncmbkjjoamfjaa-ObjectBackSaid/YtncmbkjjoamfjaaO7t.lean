import Derived.Test.YtncmbkjjoamfjaaO6
namespace Go.Proofs.Ytncmbkjjoamfjaa.H
open Go.RowKit Go.Proofs.Ytncmbkjjoamfjaa.XH Go.Proofs.YtncmbkjjoamfjaaW.PrintWords Go.Proofs.YtncmbkjjoamfjaaW.PrintLast Go.Proofs.YtncmbkjjoamfjaaW.PrintMore Go.Proofs.YtncmbkjjoamfjaaXe Go.Proofs.YtncmbkjjoamfjaaXs
set_option linter.unusedVariables false
set_option linter.unusedSimpArgs false
attribute [local go_sem ↓] Go.wp_at_zero Go.wp_at_succ
attribute [local go_sem] valUpon
theorem packO_len (k : Int) (b : List Int) (hn : b.length ≤ 65536) : (packO k b).length = (b.length + 100) / 64 * 64 := by
  have hs : secO (b.length : Int) = ((b.length : Int) + 100) / 64 := by unfold secO; rw [if_neg (by omega)]
  unfold packO
  rw [List.length_append, List.length_append, headO_len, List.length_replicate, hs]
  omega
theorem packO_take5 (k : Int) (b : List Int) : (packO k b).take 5 = (k % 256) :: lenB (b.length : Int) := rfl
theorem packO_body (k : Int) (b : List Int) : ((packO k b).take (37 + b.length)).drop 37 = b := by
  unfold packO
  rw [List.take_append, headO_len, List.take_of_length_le (by rw [headO_len]; omega), List.drop_left' (headO_len k b)]
  rw [show 37 + b.length - 37 = b.length by omega, List.take_left']
  rfl
theorem rd_take (y : List Int) (i m : Nat) (h : i < m) : rd y (i : Int) = rd (y.take m) (i : Int) := by
  unfold Go.Proofs.YtncmbkjjoamfjaaW.PrintWords.rd
  rw [Int.toNat_natCast, List.getD_eq_getElem?_getD, List.getD_eq_getElem?_getD, List.getElem?_take_of_lt h]
theorem unpE_like (k : Int) (b y : List Int) (hk : 1 ≤ k ∧ k ≤ 9) (hn : b.length ≤ 65536) (hl : y.length = (packO k b).length) (h5 : y.take 5 = (packO k b).take 5) (hb : (y.take (37 + b.length)).drop 37 = b) :
    rd y 0 = k ∧ numO y = b.length ∧ bodyO y = b ∧ unpE y = if packO k b = y then 0 else 11 := by
  rw [packO_take5] at h5
  have r0 : rd y 0 = k % 256 := by rw [show (0 : Int) = ((0 : Nat) : Int) from rfl, rd_take y 0 5 (by omega), h5]; rfl
  have r1 : rd y 1 = (b.length : Int) / 16777216 % 256 := by rw [show (1 : Int) = ((1 : Nat) : Int) from rfl, rd_take y 1 5 (by omega), h5]; rfl
  have r2 : rd y 2 = (b.length : Int) / 65536 % 256 := by rw [show (2 : Int) = ((2 : Nat) : Int) from rfl, rd_take y 2 5 (by omega), h5]; rfl
  have r3 : rd y 3 = (b.length : Int) / 256 % 256 := by rw [show (3 : Int) = ((3 : Nat) : Int) from rfl, rd_take y 3 5 (by omega), h5]; rfl
  have r4 : rd y 4 = (b.length : Int) % 256 := by rw [show (4 : Int) = ((4 : Nat) : Int) from rfl, rd_take y 4 5 (by omega), h5]; rfl
  have e0 : rd y 0 = k := by omega
  have e1 : numO y = b.length := by unfold numO; rw [r1, r2, r3, r4]; omega
  have e2 : bodyO y = b := by unfold bodyO; rw [e1, Int.toNat_natCast]; exact hb
  have hL := packO_len k b hn
  refine ⟨e0, e1, e2, ?_⟩
  have hs : secO (b.length : Int) = ((b.length : Int) + 100) / 64 := by unfold secO; rw [if_neg (by omega)]
  unfold unpE
  rw [if_neg (by omega), e0, if_neg (by omega), e1, if_neg (by omega), hs, if_neg (by omega), e2]
theorem turned (k : Int) (b : List Int) (hk : 1 ≤ k ∧ k ≤ 9) (hn : b.length ≤ 65536) (j : Nat) (v : Int) (h5 : 5 ≤ j) (hj : j < 37 ∨ 37 + b.length ≤ j) (hlt : j < (packO k b).length) (hv : v ≠ rd (packO k b) (j : Int)) : unpE ((packO k b).set j v) = 11 := by
  have h := (unpE_like k b ((packO k b).set j v) hk hn (List.length_set ..) (List.take_set_of_le h5) (by
    rcases hj with hj | hj
    · rw [List.take_set, List.drop_set_of_lt hj]; exact packO_body k b
    · rw [List.take_set_of_le hj]; exact packO_body k b)).2.2.2
  rw [h, if_neg]
  intro he
  apply hv
  have h2 : (packO k b)[j]? = ((packO k b).set j v)[j]? := by rw [← he]
  rw [List.getElem?_set_self hlt] at h2
  unfold Go.Proofs.YtncmbkjjoamfjaaW.PrintWords.rd
  rw [Int.toNat_natCast, List.getD_eq_getElem?_getD, h2]
  rfl
theorem packO_bytes (k : Int) (b : List Int) (hb : Bytes b) : Bytes (packO k b) := by
  unfold packO headO lenB
  intro x hx
  simp only [List.mem_append, List.mem_cons, List.mem_replicate, List.not_mem_nil, or_false] at hx
  rcases hx with (rfl | (rfl | rfl | rfl | rfl) | hx) | hx | ⟨_, rfl⟩
  · omega
  · omega
  · omega
  · omega
  · omega
  · exact sha_byteB b x hx
  · exact hb x hx
  · omega
theorem pick_f (a n : Int) (ha : -9223372036854775808 ≤ a ∧ a ≤ 9223372036854775807) (h1 : 1 ≤ n) (h2 : n ≤ 1000000) : ∃ p, retconkit_Pick.f a n = some p ∧ 0 ≤ p ∧ p < n := by
  have h := Int.tmod_lt_of_pos a (b := n) (by omega)
  have h' : -n < Int.tmod a n := by
    have := Int.lt_tmod_of_pos a (b := n) (by omega)
    omega
  unfold retconkit_Pick.f
  rw [if_neg (by omega), if_neg (by omega)]
  by_cases hc : Int.tmod a n < 0
  · rw [if_pos hc, wr (by omega)]
    exact ⟨_, rfl, by omega, by omega⟩
  · rw [if_neg hc]
    exact ⟨_, rfl, by omega, by omega⟩
theorem Hp.putI {w0 w : World} {Rs : List Res} (HP : Hp w0 w Rs) (i : Nat) {k : IntKind} {e g n cap : Nat} {xs : List Int} (hi : Rs[i]? = some (.row (Kd.int k) e w0.heap.size (.slice (some ⟨g, 0, none⟩) n cap) xs)) (j x : Int) :
    Hp w0 (w.setCell ⟨g, j.toNat, none⟩ (.int k x)) (Rs.set i (.row (Kd.int k) e w0.heap.size (.slice (some ⟨g, 0, none⟩) n cap) (xs.set j.toNat x))) := by
  obtain ⟨F, hR, _, _, hup⟩ := HP.setR i hi
  have h2 := Kd.R_putg (enc := Value.int k) hR j x
  have hFg : F g := hR.1 g (by simp [Value.ownBlock])
  refine hup _ _ _ h2.1 (fun k hk => .inl hk) (HP.below.grown h2.2 HP.size fun k hk => by injection hk with hk; rw [← hk]; have := Kd.R_base2 hR; rcases this with h | ⟨q, h, hq⟩ <;> simp [Value.ownBlock] at h; omega) ⟨by have := h2.2.size; exact this, fun k hk hf => h2.2.block k hk fun e => hf (by injection e with e; rw [e]; exact hFg)⟩
end Go.Proofs.Ytncmbkjjoamfjaa.H
