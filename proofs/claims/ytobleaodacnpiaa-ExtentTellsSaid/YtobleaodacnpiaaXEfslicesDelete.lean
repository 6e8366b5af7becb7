-- Printed by xprint.py (a program of this work, over the kit's print.py). Lean checks it.
import Derived.Test.YtobleaodacnpiaaXE0
namespace Go.Proofs.Ytobleaodacnpiaa.XE
open Go.RowKit Go.Proofs.YtobleaodacnpiaaW.PrintWords Go.Proofs.YtobleaodacnpiaaW.PrintLast Go.Proofs.YtobleaodacnpiaaW.PrintMore
attribute [local go_sem] max2_int min2_int max_two min_two max_three min_three max_four min_four   -- for this text's walks alone
set_option linter.unusedVariables false
set_option linter.unusedSimpArgs false

/-! ### slices_Delete: function 37 -/
theorem slices_Delete.info : (Try.prog.info? 42).map (fun i => (i.zero, i.size, i.bytes)) = some (some (.agg #[(.int .i64 0), (.int .i64 0)]), 2, 16) := by kernel_rfl
def slices_Delete.f (l0 : List (S42)) (a1 a2 : Int) : Option (List (S42)) := if 0 ≤ a1 ∧ a1 < l0.length ∧ a2 = a1 + 1 then some (l0.eraseIdx a1.toNat) else none
set_option maxHeartbeats 8000000 in
set_option maxRecDepth 100000 in
theorem slices_Delete.calls (P0_ : Nat → Prop) (u9000_ : Value) (l0 : List (S42)) (a1 a2 : Int) (r : List (S42)) (w0 w : World) (hB : Below w0.heap.size w0 w) (ho0 : Kd.R k42 42 w w0.heap.size P0_ u9000_ l0) (h : slices_Delete.f l0 a1 a2 = some r) :
    Calls Try.prog 37 #[u9000_, .int .i64 a1, .int .i64 a2] w fun e w' => ∃ v0_ : Value, e = .returned v0_ ∧ Kd.R k42 42 w' w0.heap.size (fun k_ => (P0_ k_ ∨ w.heap.size ≤ k_)) v0_ r ∧ Below w0.heap.size w0 w' ∧ Kept w w' (fun k_ => P0_ k_) := by
  unfold slices_Delete.f at h
  split at h
  case isFalse => exact absurd h (by simp)
  rename_i hc
  obtain ⟨h0, h1, rfl⟩ := hc
  obtain rfl := Option.some.inj h
  clear h
  obtain ⟨i, rfl⟩ := Int.eq_ofNat_of_zero_le h0
  have hi : i < l0.length := by omega
  obtain ⟨A, c, rfl, hlc, hC⟩ := Kd.R_reads ho0
  have hm : l0.length ≤ 9223372036854775807 := hC.2.1
  obtain ⟨g, rfl⟩ : ∃ g, A = some ⟨g, 0, none⟩ := by
    rcases ho0.2 with ⟨inner, hown, _⟩
    rcases hown.2 with ⟨hv, _⟩ | ⟨g, cap, cur, hv, _⟩
    · injection hv with e1 e2 e3
      omega
    · injection hv with e1 e2 e3
      exact ⟨g, e1⟩
  have hP : P0_ g := ho0.1 g (by simp [Value.ownBlock])
  have HO := Aside0.mk ho0
  have HB := Aside0.mk hB
  have HP := Aside0.mk hP
  have HL := Aside0.mk hlc
  clear ho0 hB hP hC
  have hcm : c ≤ 9223372036854775807 := by
    rcases HO.out.2 with ⟨inner, hown, _⟩
    rcases hown.2 with ⟨hv, _⟩ | ⟨g, cap, cur, hv, _, _, _, h5, _⟩
    · injection hv with e1 e2 e3; omega
    · injection hv with e1 e2 e3
      subst e3
      simpa [maxLen] using h5
  have hne : ((i : Int) == (i : Int) + 1) = false := by simp; omega
  have hlc' : l0.length ≤ c := HL.out
  have k1 : (i : Int) ≤ (c : Int) := by omega
  have k2 : (i : Int) + 1 ≤ (l0.length : Int) := by omega
  have k3 : ((i : Int) + 1).toNat = i + 1 := by omega
  have k4 : (0 : Int) ≤ (i : Int) + 1 := by omega
  have k5 : (i : Int) ≤ (i : Int) + 1 := by omega
  have hsz := Aside0.mk (below_size HB.out)
  by_cases hci : c = i + 1
  · obtain rfl := hci
    go_enter Try.func37, Try.ntmps37
    go_wp2_with fail
    go_still_tail 6, (by kernel_rfl)
    change wpList _ _ _ _ _ w.drew
    refine Kd.R_delete (w0 := w0) k42 w0.heap.size rfl (.tmp 22) (.tmp 25) 44 42 rfl Try.underlying44 (by kernel_rfl) rfl rfl (by simp) (by omega) (Kd.R_drew HO.out) hi (below_drew HB.out) hsz.out ?_
    intro w1 ho hb hg
    have HO1 := Aside0.mk ho
    have HB1 := Aside0.mk hb
    have HK := Aside0.mk (Kept.of_grown (w := w) (S := P0_) hg (Kept.drew (Kept.refl w P0_)) (fun k hk => by injection hk with hk; subst hk; exact .inl HP.out))
    have HG := Aside0.mk hg
    clear ho hb hg
    go_wp2_with (refine Xw.R_clear (w0 := w0) k42 w0.heap.size rfl (.tmp 31) 44 42 (.agg #[(.int .i64 0), (.int .i64 0)]) 16 rfl Try.underlying44 slices_Delete.info rfl (by decide) rfl (fun _ => by rw [Xw.tail_at]; rfl) (by omega) HO1.out HB1.out (Nat.le_trans hsz.out HG.out.size) ?_; intro w2 ho hb hg; have HO2 := Aside0.mk ho; have HB2 := Aside0.mk hb; have HK2 := Aside0.mk (Kept.of_grown (S := P0_) hg HK.out (fun k hk => by injection hk with hk; subst hk; exact .inl HP.out)); clear ho hb hg)
    go_ret
    exact ⟨_, rfl, Kd.R_mono HO2.out (fun k hk => .inl hk), HB2.out, HK2.out⟩
  · go_enter Try.func37, Try.ntmps37
    go_wp2_with fail
    go_still_tail 6, (by kernel_rfl)
    change wpList _ _ _ _ _ w.drew
    refine Kd.R_delete (w0 := w0) k42 w0.heap.size rfl (.tmp 22) (.tmp 25) 44 42 rfl Try.underlying44 (by kernel_rfl) rfl rfl (by rw [if_neg hci, Xw.tail_at]; rfl) rfl (Kd.R_drew HO.out) hi (below_drew HB.out) hsz.out ?_
    intro w1 ho hb hg
    have HO1 := Aside0.mk ho
    have HB1 := Aside0.mk hb
    have HK := Aside0.mk (Kept.of_grown (w := w) (S := P0_) hg (Kept.drew (Kept.refl w P0_)) (fun k hk => by injection hk with hk; subst hk; exact .inl HP.out))
    have HG := Aside0.mk hg
    clear ho hb hg
    go_wp2_with (refine Xw.R_clear (w0 := w0) k42 w0.heap.size rfl (.tmp 31) 44 42 (.agg #[(.int .i64 0), (.int .i64 0)]) 16 rfl Try.underlying44 slices_Delete.info rfl (by decide) rfl (fun _ => by rw [Xw.tail_at]; rfl) (by omega) HO1.out HB1.out (Nat.le_trans hsz.out HG.out.size) ?_; intro w2 ho hb hg; have HO2 := Aside0.mk ho; have HB2 := Aside0.mk hb; have HK2 := Aside0.mk (Kept.of_grown (S := P0_) hg HK.out (fun k hk => by injection hk with hk; subst hk; exact .inl HP.out)); clear ho hb hg)
    go_ret
    exact ⟨_, rfl, Kd.R_mono HO2.out (fun k hk => .inl hk), HB2.out, HK2.out⟩

end Go.Proofs.Ytobleaodacnpiaa.XE
