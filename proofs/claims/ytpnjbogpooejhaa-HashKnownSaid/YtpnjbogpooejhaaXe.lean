import Derived.Test.YtpnjbogpooejhaaWWords
import Derived.RowKit
/-! Printed functions with rounds: what they tell for enough rounds. -/
namespace Go.Proofs.YtpnjbogpooejhaaXe
open Go.RowKit Go.Proofs.YtpnjbogpooejhaaW.PrintWords

/-- for every count of rounds from some count on, f tells v -/
def Et {α : Type} (f : Nat → Option α) (v : α) : Prop := ∃ K, ∀ k, K ≤ k → f k = some v

theorem Et.ret {α : Type} (v : α) : Et (fun _ => some v) v := ⟨0, fun _ _ => rfl⟩
theorem Et.ret' {α : Type} {v u : α} (h : v = u) : Et (fun _ => some v) u := ⟨0, fun _ _ => by rw [h]⟩
theorem Et.out {α : Type} {f : Nat → Option α} {v : α} (h : Et f v) : ∃ k, f k = some v := by obtain ⟨K, h⟩ := h; exact ⟨K, h K (Nat.le_refl _)⟩
theorem Et.bind {α β : Type} {f : Nat → Option α} {g : Nat → α → Option β} {a : α} {b : β} (h : Et f a) (h' : Et (fun k => g k a) b) : Et (fun k => (f k).bind fun t => g k t) b := by
  obtain ⟨K, h⟩ := h
  obtain ⟨K', h'⟩ := h'
  refine ⟨max K K', fun k hk => ?_⟩
  have h1 := h k (by omega)
  have h2 := h' k (by omega)
  simp only [h1, Option.bind_some]
  exact h2
theorem Et.succ {α : Type} {f : Nat → Option α} {v : α} (h : Et (fun k => f (k + 1)) v) : Et f v := by
  obtain ⟨K, h⟩ := h
  refine ⟨K + 1, fun k hk => ?_⟩
  obtain ⟨j, rfl⟩ : ∃ j, k = j + 1 := ⟨k - 1, by omega⟩
  exact h j (by omega)
theorem Et.pos {α : Type} {c : Prop} [Decidable c] {f g : Nat → Option α} {v : α} (hc : c) (h : Et f v) : Et (fun k => if c then f k else g k) v := by
  simpa [hc] using h
theorem Et.neg {α : Type} {c : Prop} [Decidable c] {f g : Nat → Option α} {v : α} (hc : ¬ c) (h : Et g v) : Et (fun k => if c then f k else g k) v := by
  simpa [hc] using h
theorem Et.ite {α : Type} {c : Prop} [Decidable c] {f g : Nat → Option α} {v : α} (h : c → Et f v) (h' : ¬ c → Et g v) : Et (fun k => if c then f k else g k) v := by
  by_cases hc : c
  · exact Et.pos hc (h hc)
  · exact Et.neg hc (h' hc)
theorem Et.congr {α : Type} {f g : Nat → Option α} {v : α} (h : Et g v) (e : ∀ k, f k = g k) : Et f v := by
  have : f = g := funext e
  rwa [this]
theorem Et.of_mono {α : Type} {f : Nat → Option α} {v : α} (m : ∀ k, LeO (f k) (f (k + 1))) {K : Nat} (h : f K = some v) : Et f v := by
  refine ⟨K, fun k hk => ?_⟩
  obtain ⟨d, rfl⟩ := Nat.le.dest hk
  clear hk
  induction d with
  | zero => exact h
  | succ d ih => exact m _ _ ih

theorem wr {x : Int} (h : -9223372036854775808 ≤ x ∧ x ≤ 9223372036854775807) : wrap64 x = x := by unfold wrap64; omega
theorem wf64 {x : Int} (h : (Lit.int .i64 x).wf = true) : -9223372036854775808 ≤ x ∧ x ≤ 9223372036854775807 := by
  simp only [Lit.wf, IntKind.min, IntKind.max, IntKind.signed, IntKind.bits, Bool.and_eq_true, decide_eq_true_eq, if_true] at h
  omega
theorem getD_mid {α : Type} (d : α) (A : List α) (x : α) (B : List α) : (A ++ x :: B).getD A.length d = x := by
  simp [List.getD]
end Go.Proofs.YtpnjbogpooejhaaXe
