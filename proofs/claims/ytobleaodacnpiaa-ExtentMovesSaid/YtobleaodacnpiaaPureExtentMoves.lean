import Derived.Test.YtobleaodacnpiaaXEfretconlaw14ExtentMoves
import Derived.Test.YtobleaodacnpiaaTh6
namespace Go.Proofs.Ytobleaodacnpiaa.Pure
open Go.RowKit Go.Proofs.Ytobleaodacnpiaa.XE Go.Proofs.YtobleaodacnpiaaW.PrintWords Go.Proofs.YtobleaodacnpiaaW.PrintLast Go.Proofs.YtobleaodacnpiaaXe Go.Proofs.Ytobleaodacnpiaa.Th
set_option linter.unusedVariables false
theorem awake : Et (fun k => retconlaw14_awake.f k) true := Et.of_mono retconlaw14_awake.mono (K := 60) (by kernel_rfl)
theorem over_l (B : List S42) : ∀ (A : List S42) (i : Int), i = (A.length : Int) → (A ++ B).length ≤ 100000000 → ∃ r, Et (fun k => retconkit_OverExtents.l0 k (A ++ B) i) r := by
  induction B with
  | nil =>
    intro A i hi hb
    refine ⟨A ++ [], Et.succ ?_⟩
    simp only [retconkit_OverExtents.l0]
    exact Et.neg (by simp; omega) (Et.ret _)
  | cons x B ih =>
    intro A i hi hb
    have hlen := len_mid A x B
    have hset : (A ++ x :: B).set i.toNat ⟨-7, -7⟩ = (A ++ [⟨-7, -7⟩]) ++ B := by
      rw [show i.toNat = A.length by omega]
      simp
    obtain ⟨r, hr⟩ := ih (A ++ [⟨-7, -7⟩]) (i + 1) (by simp; omega) (by simp at hb ⊢; omega)
    refine ⟨r, Et.succ ?_⟩
    simp only [retconkit_OverExtents.l0]
    refine Et.pos (by omega) (Et.pos (by omega) ?_)
    rw [hset, wr (x := i + 1) (by omega)]
    exact hr
theorem over (l : List S42) (hn : l.length ≤ 100000000) : ∃ r, Et (fun k => retconkit_OverExtents.f k l) r := over_l l [] 0 rfl hn
theorem same' (l : List S42) (e : Int) (hn : l.length ≤ 100000000) : ∃ r, Et (fun k => retconlaw14_same.f k l e l e) (true, r) := by
  obtain ⟨r, hr⟩ := over l hn
  refine ⟨r, ?_⟩
  unfold retconlaw14_same.f
  refine Et.pos rfl (Et.bind (same l l hn) (Et.bind hr (Et.ret' (by simp))))
theorem parts_size (A : List S42) (x : S42) (B : List S42) (s n : Int) (h : (A ++ x :: B).length ≤ 40) : (A ++ parts x s n ++ B).length ≤ 1000 := by
  have := parts_len x s n
  simp at h ⊢
  omega
theorem ins_size (A B : List S42) (x : S42) (h : (A ++ B).length ≤ 40) : (ins A x B).length ≤ 1000 := by
  unfold ins
  have h1 : (joinL A x).1.length ≤ A.length := by
    rcases List.eq_nil_or_concat A with rfl | ⟨A', y, rfl⟩
    · simp [joinL]
    · simp only [List.concat_eq_append]
      rw [joinL_last]
      split <;> simp
  have h2 : (joinR (joinL A x).2 B).length ≤ B.length + 1 := by
    cases B with
    | nil => simp [joinR]
    | cons b B => simp only [joinR]; split <;> simp
  simp at h ⊢
  omega
theorem allocs (l : List S42) (n : Int) (hn : l.length ≤ 40) (hW : Wf l) : ∃ i m e, Et (fun k => extent_Alloc.f k l n) (i, m, e) ∧ Et (fun k => retconref14_Alloc.f k l n) (i, m, e) ∧ m.length ≤ 1000 := by
  by_cases hv : Va (-1) l ∧ 1 ≤ n
  · obtain ⟨hv, h1⟩ := hv
    rcases first l n with hf | ⟨A, x, B, rfl, hA, hx⟩
    · exact ⟨_, _, _, alloc_full l n (by omega) hv h1 hf, ralloc_full l n (by omega) hv h1 hf, by simp⟩
    · exact ⟨_, _, _, alloc_ok A x B n (by omega) hv h1 hA hx, ralloc_ok A x B n (by omega) hv h1 hA hx, parts_size A x B _ n hn⟩
  · exact ⟨_, _, _, alloc_bad l n (by omega) hW hv, ralloc_bad l n (by omega) hW hv, by simp⟩
theorem takes (l : List S42) (s n : Int) (hn : l.length ≤ 40) (hW : Wf l) : ∃ m e, Et (fun k => extent_Take.f k l s n) (m, e) ∧ Et (fun k => retconref14_Take.f k l s n) (m, e) ∧ m.length ≤ 1000 := by
  by_cases hv : Va (-1) l ∧ Row s n
  · obtain ⟨hv, hr⟩ := hv
    obtain ⟨A, B, rfl, hA, hB⟩ := hv.parts s
    obtain ⟨r1, r2, r3⟩ := id hr
    obtain ⟨_, e', e1, hvB, e2, _⟩ := hv.app
    by_cases h : ∃ b B', B = b :: B' ∧ b.f0 ≤ s ∧ s + n ≤ b.f0 + b.f1
    · obtain ⟨b, B', rfl, h0, h1⟩ := h
      exact ⟨_, _, take_ok A b B' s n (by omega) hv hr hA hB h0 h1, rtake_ok A b B' s n (by omega) hv hr hA h0 h1, parts_size A b B' s n hn⟩
    · refine ⟨_, _, take_there A B s n (by omega) hv hr hA hB (fun b B' hb => ?_), rtake_there (A ++ B) s n (by omega) hv hr (fun y hy hc => ?_), by simp⟩
      · by_cases h0 : s < b.f0
        · exact Or.inl h0
        · exact Or.inr (by have : ¬ s + n ≤ b.f0 + b.f1 := fun h1 => h ⟨b, B', hb, by omega, h1⟩; omega)
      · rcases List.mem_append.mp hy with hy | hy
        · have := hA y hy; omega
        · cases B with
          | nil => cases hy
          | cons b B =>
            rcases List.mem_cons.mp hy with rfl | hy
            · exact h ⟨y, B, rfl, hc.1, hc.2⟩
            · have := hvB.2.2.2.mem hy
              have := hB b (by simp)
              omega
  · exact ⟨_, _, take_bad l s n (by omega) hW hv, rtake_bad l s n (by omega) hW hv, by simp⟩
theorem frees (l : List S42) (s n : Int) (hn : l.length ≤ 40) (hW : Wf l) : ∃ m e, Et (fun k => extent_Free.f k l s n) (m, e) ∧ Et (fun k => retconref14_Free.f k l s n) (m, e) ∧ m.length ≤ 1000 := by
  by_cases hv : Va (-1) l ∧ Row s n
  · obtain ⟨hv, hr⟩ := hv
    obtain ⟨A, B, rfl, hA, hB⟩ := hv.parts s
    by_cases h : ∃ b B', B = b :: B' ∧ b.f0 < s + n
    · obtain ⟨b, B', rfl, h0⟩ := h
      exact ⟨_, _, free_there A b B' s n (by omega) hv hr hA hB h0, rfree_there A b B' s n (by omega) hv hr hA (hB b (by simp)) h0, by simp⟩
    · have hb := behind (s := s) (n := n) hv (fun b B' hb => by have : ¬ b.f0 < s + n := fun h1 => h ⟨b, B', hb, h1⟩; omega)
      exact ⟨_, _, free_ok A B s n (by omega) hv hr hA hB hb, rfree_ok A B s n (by omega) hv hr hA hb, ins_size A B _ hn⟩
  · exact ⟨_, _, free_bad l s n (by omega) hW hv, rfree_bad l s n (by omega) hW hv, by simp⟩
theorem ExtentMoves : retconlaw14_ExtentMoves.Pure := by
  intro l a1 a2 _ _ hw h1 h2
  have hW : Wf l := fun x hx => ⟨wf64 (hw x hx).1, wf64 (hw x hx).2⟩
  refine Et.out (f := fun k => retconlaw14_ExtentMoves.f k l a1 a2) ?_
  unfold retconlaw14_ExtentMoves.f
  refine Et.ite (fun c => Et.bind awake (Et.ret _)) fun c => ?_
  have hc : retconkit_CopyExtents.f l = some l := by
    unfold retconkit_CopyExtents.f
    simp only [Option.bind_some]
    rw [if_pos (by simp; omega)]
    simp
  rw [hc]
  simp only [Option.bind_some]
  obtain ⟨i, m, e, p1, p2, p3⟩ := allocs l a2 (by omega) hW
  obtain ⟨m', e', q1, q2, q3⟩ := takes l a1 a2 (by omega) hW
  obtain ⟨m'', e'', s1, s2, s3⟩ := frees l a1 a2 (by omega) hW
  obtain ⟨r, hr⟩ := same' m e (by omega)
  obtain ⟨r', hr'⟩ := same' m' e' (by omega)
  obtain ⟨r'', hr''⟩ := same' m'' e'' (by omega)
  refine Et.bind p1 (Et.bind p2 (Et.pos rfl (Et.bind hr (Et.succ ?_))))
  simp only [retconlaw14_ExtentMoves.j0]
  refine Et.bind q1 (Et.bind q2 (Et.bind hr' (Et.bind s1 (Et.bind s2 (Et.pos (by trivial) (Et.pos (by trivial) (Et.bind hr'' (Et.pos (by trivial) ?_))))))))
  exact Et.bind (same l l (by omega)) (Et.pos (by simp) (Et.bind awake (Et.ret _)))
end Go.Proofs.Ytobleaodacnpiaa.Pure
