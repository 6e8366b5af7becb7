import Derived.Test.YtncmbkjjoamfjaaP6
namespace Go.Proofs.Ytncmbkjjoamfjaa.H
open Go.RowKit Go.Proofs.Ytncmbkjjoamfjaa.XH Go.Proofs.YtncmbkjjoamfjaaW.PrintWords Go.Proofs.YtncmbkjjoamfjaaW.PrintLast Go.Proofs.YtncmbkjjoamfjaaW.PrintMore Go.Proofs.YtncmbkjjoamfjaaXe Go.Proofs.YtncmbkjjoamfjaaXs
set_option linter.unusedVariables false
set_option linter.unusedSimpArgs false
attribute [local go_sem ↓] Go.wp_at_zero Go.wp_at_succ
attribute [local go_sem] valUpon
attribute [local go_sem ↓ high] bn29
attribute [local go_sem high] BN29.z
theorem C_lent {w : World} {g : Nat} {b t : List Int} (hg : w.heap[g]? = some (.cells (u8s (b ++ t)).toArray 5 (0, 0))) (hm : (b ++ t).length ≤ 9223372036854775807) : Kd.C (Kd.int .u8) w (some ⟨g, 0, none⟩) b.length b := by
  have h := Kd.C_take (m := b.length) (C_blkW (k := .u8) hg hm) (by rw [List.length_append]; omega)
  rw [List.take_left' rfl] at h
  exact h
theorem C_pre {w : World} {g : Nat} {L l : List Int} (hg : w.heap[g]? = some (.cells (u8s l).toArray 5 (0, 0))) (hm : l.length ≤ 9223372036854775807) (ht : l.take L.length = L) (hl : L.length ≤ l.length) : Kd.C (Kd.int .u8) w (some ⟨g, 0, none⟩) L.length L := by
  have h := Kd.C_take (m := L.length) (C_blkW (k := .u8) hg hm) hl
  rw [ht] at h
  exact h
theorem lent_lenB (b : List Int) : (b ++ lentT b.length).length = b.length + 3 := by simp [lentT]
set_option maxHeartbeats 8000000 in
set_option maxRecDepth 100000 in
theorem objectUnpacks_law (A : Option Addr) (c : Nat) (b : List Int) (w : World) (hr : Kd.C (Kd.int .u8) w A b.length b) (hc : b.length ≤ c) (hB : Bytes b) :
    Calls Try.prog 4 #[.slice A b.length c] w fun e w' => e = .returned (.bool true) ∧ Below w.heap.size w w' := by
  have HR := Aside0.mk hr
  have HC := Aside0.mk hc
  have HB := Aside0.mk hB
  have HP := Aside0.mk (Hp.start w)
  clear hr hc hB
  go_enter Try.func4, Try.ntmps4
  by_cases c1 : (2000 : Int) < (b.length : Int)
  · have c1b : decide ((2000 : Int) < (b.length : Int)) = true := decide_eq_true c1
    go_wp2_with fail
    refine (c_awake _).mono ?_; rintro e wB ⟨rfl, hb⟩; have HPn := Aside0.mk (HP.out.call hb); clear HP; have HP := HPn; clear HPn; clear hb
    go_wp2_with fail
    go_ret
    exact ⟨rfl, HP.out.below⟩
  have c1b : decide ((2000 : Int) < (b.length : Int)) = false := decide_eq_false c1
  have HN := Aside0.mk (show b.length ≤ 2000 by omega)
  clear c1
  have hN := HN.out
  go_wp2_with fail
  refine (c_lent A c b _ (Kd.C_below HR.out HP.out.below) HC.out (by omega)).mono ?_; rintro e w2 ⟨g9, rfl, hge, hg, hb⟩
  have HPn := Aside0.mk (HP.out.newB hb hg hge)
  clear HP hb hg hge
  have HP := HPn
  clear HPn
  have HLC := Aside0.mk (fun (w' : World) (h : w'.heap[g9]? = _) => C_lent h (by rw [lent_lenB]; omega) : ∀ w' : World, w'.heap[g9]? = some (.cells (u8s (b ++ lentT b.length)).toArray 5 (0, 0)) → Kd.C (Kd.int .u8) w' (some ⟨g9, 0, none⟩) b.length b)
  have CR := Aside0.mk (fun w hr => c_runpack A c b w hr HC.out (by omega) HB.out)
  have CK := Aside0.mk (fun w hg hr => c_kept g9 A c b w hg hr HC.out (by omega))
  have CU := Aside0.mk (c_unpack8 (some ⟨g9, 0, none⟩) (b.length + 3) b _ (HLC.out _ (HP.out.blk 0 rfl)) (by omega) (by omega) HB.out)
  obtain ⟨X, hX⟩ : ∃ z, unpB b = z := ⟨_, rfl⟩
  obtain ⟨kk, hkk⟩ : ∃ z, unpK b = z := ⟨_, rfl⟩
  obtain ⟨ee, hee⟩ : ∃ z, unpE b = z := ⟨_, rfl⟩
  have HLB := Aside0.mk hX
  have HLK := Aside0.mk hkk
  have HLE := Aside0.mk hee
  clear hX hkk hee hN
  go_wp2_with fail
  refine CU.out.mono ?_; rintro e w3 ⟨v3, rfl, ho⟩
  clear CU
  rw [HLB.out] at ho
  rw [HLE.out, HLK.out]
  rcases ho with ⟨rfl, rfl, hb⟩ | ⟨g10, l10, rfl, ht1, ht2, ht3, hge, hg, hb⟩
  · have HPn := Aside0.mk (HP.out.call hb); clear HP; have HP := HPn; clear HPn; clear hb
    go_wp2_with fail
    refine (CR.out _ (Kd.C_below HR.out HP.out.below)).mono ?_; rintro e w4 ⟨vy, rfl, ho, hb⟩
    rw [HLB.out] at ho
    rw [HLE.out, HLK.out]
    have HPn := Aside0.mk (HP.out.newR hb ho)
    clear HP ho hb
    have HP := HPn
    clear HPn
    obtain ⟨Ay, cy, rfl⟩ := Kd.R_slice (HP.out.row 0 rfl)
    go_wp2_with fail
    refine (retconkit_SameBytes.calls none 0 [] Ay cy [] true _ (Kd.R_reads' (Kd.R_nil (Kd.int .u8) 5 w4 0 (fun _ => True))).2.2 (Nat.le_refl _) (Kd.R_reads' (HP.out.row 0 rfl)).2.2 (Kd.R_reads' (HP.out.row 0 rfl)).2.1 (same_f _)).mono ?_; rintro e w_ ⟨rfl, n1, rfl⟩; have HPn := Aside0.mk (HP.out.drewN n1); clear HP; have HP := HPn; clear HPn; (try simp only [World.drewN_drewN] at HP)
    go_wp2_with fail
    refine (c_over0 _ _).mono ?_; rintro e w9 ⟨rfl, hb⟩; have HPn := Aside0.mk (HP.out.call hb); clear HP; have HP := HPn; clear HPn; clear hb
    go_wp2_with fail
    (with_reducible refine (CK.out _ (HP.out.blk 1 rfl) (Kd.C_below HR.out HP.out.below)).mono ?_); rintro e wA ⟨rfl, hb⟩; have HPn := Aside0.mk (HP.out.call hb); clear HP; have HP := HPn; clear HPn; clear hb
    go_wp2_with fail
    refine (c_awake _).mono ?_; rintro e wB ⟨rfl, hb⟩; have HPn := Aside0.mk (HP.out.call hb); clear HP; have HP := HPn; clear HPn; clear hb
    go_wp2_with fail
    go_ret
    exact ⟨rfl, HP.out.below⟩
  · have HX := Aside0.mk (And.intro ht1 (And.intro ht2 ht3))
    clear ht1 ht2 ht3
    have HPn := Aside0.mk (HP.out.newB hb hg hge)
    clear HP hb hg hge
    have HP := HPn
    clear HPn
    go_wp2_with fail
    refine (CR.out _ (Kd.C_below HR.out HP.out.below)).mono ?_; rintro e w4 ⟨vy, rfl, ho, hb⟩
    rw [HLB.out] at ho
    rw [HLE.out, HLK.out]
    have HPn := Aside0.mk (HP.out.newR hb ho)
    clear HP ho hb
    have HP := HPn
    clear HPn
    obtain ⟨Ay, cy, rfl⟩ := Kd.R_slice (HP.out.row 0 rfl)
    go_wp2_with fail
    refine (retconkit_SameBytes.calls (some ⟨g10, 0, none⟩) l10.length X Ay cy X true _ (C_pre (HP.out.blk 1 rfl) HX.out.2.2 HX.out.1 HX.out.2.1) HX.out.2.1 (Kd.R_reads' (HP.out.row 0 rfl)).2.2 (Kd.R_reads' (HP.out.row 0 rfl)).2.1 (same_f _)).mono ?_; rintro e w_ ⟨rfl, n1, rfl⟩; have HPn := Aside0.mk (HP.out.drewN n1); clear HP; have HP := HPn; clear HPn; (try simp only [World.drewN_drewN] at HP)
    go_wp2_with fail
    refine (c_overM HP.out 1 g10 l10 X.length rfl HX.out.2.1 HX.out.2.2).mono ?_; rintro e w9 ⟨rfl, l11, -, hp⟩
    clear HP
    have HP := Aside0.mk hp
    clear hp
    go_wp2_with fail
    (with_reducible refine (CK.out _ (HP.out.blk 2 rfl) (Kd.C_below HR.out HP.out.below)).mono ?_); rintro e wA ⟨rfl, hb⟩; have HPn := Aside0.mk (HP.out.call hb); clear HP; have HP := HPn; clear HPn; clear hb
    go_wp2_with fail
    refine (c_awake _).mono ?_; rintro e wB ⟨rfl, hb⟩; have HPn := Aside0.mk (HP.out.call hb); clear HP; have HP := HPn; clear HPn; clear hb
    go_wp2_with fail
    go_ret
    exact ⟨rfl, HP.out.below⟩
end Go.Proofs.Ytncmbkjjoamfjaa.H
