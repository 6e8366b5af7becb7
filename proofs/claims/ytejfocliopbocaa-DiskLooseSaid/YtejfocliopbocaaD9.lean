import Derived.Test.YtejfocliopbocaaD8
namespace Go.Proofs.Ytejfocliopbocaa.D
open Go.RowKit Go.Proofs.Ytejfocliopbocaa.XD Go.Proofs.YtejfocliopbocaaW.PrintWords Go.Proofs.YtejfocliopbocaaW.PrintLast Go.Proofs.YtejfocliopbocaaW.PrintMore Go.Proofs.YtejfocliopbocaaXe Go.Proofs.YtejfocliopbocaaXs
set_option linter.unusedVariables false
set_option linter.unusedSimpArgs false
attribute [local go_sem ↓] Go.wp_at_zero Go.wp_at_succ
def DS.readyE (S : DS) (n : Int) : Int := readyD S.out S.many n
def writeE (S : DS) (n : Int) (b : List Int) : Int := if S.readyE n ≠ 0 then S.readyE n else if b.length ≠ 64 then 2 else if S.fuse = 0 then 10 else 0
def DS.step (S : DS) : DS := { S with steps := wrap64 (S.steps + 1), fuse := burn S.fuse }
def writeS (S : DS) (n : Int) (b : List Int) : DS := if S.readyE n ≠ 0 then S else if b.length ≠ 64 then S else if S.fuse = 0 then { S with out := true } else { S.step with l := S.l ++ [(n, b)] }
theorem Hp.closeD {w0 w : World} {Rs : List Res} (S : DS) {i : Nat} {base g gm : Nat} {m : List Ent} {clock : Nat} {v : Value} (hm : look m = S.at' ∧ ∀ k, (S.at' k).length = 64) (hl : i < Rs.length)
    (h : Hp w0 w (.blk g (.cells (dC S.steps S.fuse S.out true S.many gm v).toArray 63 (0, 0)) :: .blk gm (.map (rawM m) clock) :: .row KL 70 base v S.l :: Rs.set i .none)) : Hp w0 w (Rs.set i (rDisk base g S)) :=
  Hp.closeE (p := diskP S) (diskL base g S) (gm, m, clock, v) hm i hl h
theorem eta_out (S : DS) (h : S.out = false) : ({ S with out := false } : DS) = S := by cases S; simp_all
set_option maxHeartbeats 8000000 in
set_option maxRecDepth 100000 in
theorem c_write {w0 w : World} {Rs : List Res} (HP : Hp w0 w Rs) (i g : Nat) (S : DS) (hi : Rs[i]? = some (rDisk w0.heap.size g S)) (n : Int) (A : Option Addr) (c : Nat) (b : List Int) (hbl : b.length ≤ 9223372036854775807) (hB : Rd (Kd.int .u8) w0 Rs i A b.length b) (hl : S.l.length ≤ 1000000) :
    Calls Try.prog 11 #[.pointer (some ⟨g, 0, none⟩), .int .i64 n, .slice A b.length c] w fun e w' => e = .returned (.int .i64 (writeE S n b)) ∧ Hp w0 w' (Rs.set i (rDisk w0.heap.size g (writeS S n b))) := by
  obtain ⟨⟨gm, m, clock, v⟩, hm, HP0⟩ := HP.openE i hi
  have HP1 : Hp w0 w (.blk g (.cells (dC S.steps S.fuse S.out true S.many gm v).toArray 63 (0, 0)) :: .blk gm (.map (rawM m) clock) :: .row KL 70 w0.heap.size v S.l :: Rs.set i .none) := HP0
  have hil : i < Rs.length := (List.getElem?_eq_some_iff.1 hi).1
  have HPn := Aside0.mk HP1
  have HM := Aside0.mk hm
  have HI := Aside0.mk hil
  clear HP HP0 HP1 hm hil
  have HP := HPn
  clear HPn
  have HB := Aside0.mk hB
  have HL := Aside0.mk hl
  unfold writeE writeS
  have HR := Aside0.mk (fun w hg => c_ready g S.steps S.fuse S.out S.many gm v n w hg)
  clear hB hl hi
  obtain ⟨r, hr⟩ : ∃ z, S.readyE n = z := ⟨_, rfl⟩
  rw [show readyD S.out S.many n = r from hr] at HR
  rw [hr]
  obtain ⟨bl, hbl2⟩ : ∃ z, b.length = z := ⟨_, rfl⟩
  rw [hbl2] at HB hbl
  rw [hbl2]
  have HBL := Aside0.mk hbl2
  have HRR := Aside0.mk hr
  clear hbl2 hr
  by_cases h0 : r = 0
  · subst h0
    rw [if_neg (show ¬ ((0 : Int) ≠ 0) by decide), if_neg (show ¬ ((0 : Int) ≠ 0) by decide)]
    by_cases h64 : bl = 64
    · subst h64
      rw [if_neg (show ¬ ((64 : Nat) ≠ 64) by decide), if_neg (show ¬ ((64 : Nat) ≠ 64) by decide)]
      by_cases hf : S.fuse = 0
      · rw [if_pos hf, if_pos hf]
        have HF := Aside0.mk hf
        clear hf
        have hmf : ∀ (fn : Fn) (first cap : Array Value) (w : World), (Instr.makeFunc fn first cap).run Try.prog w = .ok (.func fn first cap) w := fun fn first cap w => by simp [Instr.makeFunc]
        go_enter Try.func11, Try.ntmps11
        go_wp2_with (first | ((with_reducible refine gate_dst (N := 3) rfl ?_); refine ev_boxv rfl 22 (.tmp 0) rfl (.pointer (some ⟨g, 0, none⟩)) rfl rfl ?_; intro b0 wa hge hg hb; have HPn := Aside0.mk (HP.out.newB hb hg hge); clear HP; have HP := HPn; clear HPn; clear hge hg hb) | ((with_reducible refine gate_dst (N := 4) rfl ?_); refine ev_boxv rfl 3 (.tmp 1) rfl (.int .i64 n) rfl rfl ?_; intro b1 wb hge hg hb; have HPn := Aside0.mk (HP.out.newB hb hg hge); clear HP; have HP := HPn; clear HPn; clear hge hg hb) | ((with_reducible refine gate_dst (N := 5) rfl ?_); refine ev_boxv rfl 27 (.tmp 2) rfl (.slice A 64 c) rfl rfl ?_; intro b2 wc hge hg hb; have HPn := Aside0.mk (HP.out.newB hb hg hge); clear HP; have HP := HPn; clear HPn; clear hge hg hb; have h0 := blk_cell (HP.out.blk 2 rfl) 0; have h1 := blk_cell (HP.out.blk 1 rfl) 0; have h2 := blk_cell (HP.out.blk 0 rfl) 0))
        refine (HR.out _ (HP.out.blk 3 rfl)).mono ?_; rintro e w_ ⟨rfl, rfl⟩
        go_wp2_with fail
        (try clear h0 h1 h2)
        refine (c_step0 HP.out 3 g S.steps S.fuse S.out true S.many gm v _ rfl (.inr HF.out)).mono ?_; rintro e w2 ⟨rfl, hpn⟩
        have HPn := Aside0.mk hpn
        clear HP hpn
        have HP := HPn
        clear HPn
        go_wp2_with fail
        go_ret
        exact ⟨rfl, Hp.closeD { S with out := true } HM.out HI.out (Hp.dropN [_, _, _] HP.out)⟩
      · rw [if_neg hf, if_neg hf]
        have HF := Aside0.mk hf
        clear hf
        have HO := Aside0.mk (show S.out = false by
          have h := HRR.out
          unfold DS.readyE readyD at h
          cases ho : S.out with
          | false => rfl
          | true => rw [ho] at h; simp at h)
        rw [HO.out] at HP HR
        have HEN := Aside0.mk (fun w b0 b1 b2 => enters_fn (P := Try.prog) Try.func31 (by kernel_rfl) rfl #[.pointer (some ⟨b0, 0, none⟩), .pointer (some ⟨b1, 0, none⟩), .pointer (some ⟨b2, 0, none⟩)] w)
        obtain ⟨Ab, Ao, hA⟩ := C_addr (HB.out w .none (Hp.dropN [_, _, _] HP.out)) (by decide) (by rw [HBL.out])
        subst hA
        have hmf : ∀ (fn : Fn) (first cap : Array Value) (w : World), (Instr.makeFunc fn first cap).run Try.prog w = .ok (.func fn first cap) w := fun fn first cap w => by simp [Instr.makeFunc]
        go_enter Try.func11, Try.ntmps11
        go_wp2_with (first | ((with_reducible refine gate_dst (N := 3) rfl ?_); refine ev_boxv rfl 22 (.tmp 0) rfl (.pointer (some ⟨g, 0, none⟩)) rfl rfl ?_; intro b0 wa hge hg hb; have HPn := Aside0.mk (HP.out.newB hb hg hge); clear HP; have HP := HPn; clear HPn; clear hge hg hb) | ((with_reducible refine gate_dst (N := 4) rfl ?_); refine ev_boxv rfl 3 (.tmp 1) rfl (.int .i64 n) rfl rfl ?_; intro b1 wb hge hg hb; have HPn := Aside0.mk (HP.out.newB hb hg hge); clear HP; have HP := HPn; clear HPn; clear hge hg hb) | ((with_reducible refine gate_dst (N := 5) rfl ?_); refine ev_boxv rfl 27 (.tmp 2) rfl (.slice (some ⟨Ab, Ao, none⟩) 64 c) rfl rfl ?_; intro b2 wc hge hg hb; have HPn := Aside0.mk (HP.out.newB hb hg hge); clear HP; have HP := HPn; clear HPn; clear hge hg hb; have h0 := blk_cell (HP.out.blk 2 rfl) 0; have h1 := blk_cell (HP.out.blk 1 rfl) 0; have h2 := blk_cell (HP.out.blk 0 rfl) 0))
        refine (HR.out _ (HP.out.blk 3 rfl)).mono ?_; rintro e w_ ⟨rfl, rfl⟩
        go_wp2_with fail
        (try clear h0 h1 h2)
        refine (c_step1 (Q := fun w' => ∃ v', Hp w0 w' (.blk b2 (.cells #[.slice (some ⟨Ab, Ao, none⟩) 64 c] 27 (0, 0)) :: .blk b1 (.cells #[.int .i64 n] 3 (0, 0)) :: .blk b0 (.cells #[.pointer (some ⟨g, 0, none⟩)] 22 (0, 0)) :: .blk g (.cells (dC (wrap64 (S.steps + 1)) (burn S.fuse) false true S.many gm v').toArray 63 (0, 0)) :: .blk gm (.map (rawM m) clock) :: .row KL 70 w0.heap.size v' (S.l ++ [(n, b)]) :: Rs.set i .none)) HP.out 3 g S.steps S.fuse true S.many gm v _ _ rfl HF.out (fun w => HEN.out w b0 b1 b2) (fun w1 h1 => (c_write1 g gm (wrap64 (S.steps + 1)) (burn S.fuse) S.many (.map (rawM m) clock) v n Ab Ao c b (by rw [HBL.out]) S.l HL.out b0 b1 b2 h1 (fun w hw => HB.out w .none hw)).mono fun e w' h => h)).mono ?_; rintro e w2 ⟨rfl, v', hpn⟩
        have HPn := Aside0.mk hpn
        clear HP hpn
        have HP := HPn
        clear HPn
        go_wp2_with fail
        go_ret
        refine ⟨rfl, Hp.closeD { S.step with l := S.l ++ [(n, b)] } (v := v') HM.out HI.out (by have h := Hp.dropN [_, _, _] HP.out; rw [← HO.out] at h; exact h)⟩
    · rw [if_pos h64, if_pos h64]
      have hd : ((bl : Int) != 64) = true := bne_iff_ne.2 (by omega)
      clear h64
      go_enter Try.func11, Try.ntmps11
      go_wp2_with (first | ((with_reducible refine gate_dst (N := 3) rfl ?_); refine ev_boxv rfl 22 (.tmp 0) rfl (.pointer (some ⟨g, 0, none⟩)) rfl rfl ?_; intro b0 wa hge hg hb; have HPn := Aside0.mk (HP.out.newB hb hg hge); clear HP; have HP := HPn; clear HPn; clear hge hg hb) | ((with_reducible refine gate_dst (N := 4) rfl ?_); refine ev_boxv rfl 3 (.tmp 1) rfl (.int .i64 n) rfl rfl ?_; intro b1 wb hge hg hb; have HPn := Aside0.mk (HP.out.newB hb hg hge); clear HP; have HP := HPn; clear HPn; clear hge hg hb) | ((with_reducible refine gate_dst (N := 5) rfl ?_); refine ev_boxv rfl 27 (.tmp 2) rfl (.slice A bl c) rfl rfl ?_; intro b2 wc hge hg hb; have HPn := Aside0.mk (HP.out.newB hb hg hge); clear HP; have HP := HPn; clear HPn; clear hge hg hb; have h0 := blk_cell (HP.out.blk 2 rfl) 0; have h1 := blk_cell (HP.out.blk 1 rfl) 0; have h2 := blk_cell (HP.out.blk 0 rfl) 0))
      refine (HR.out _ (HP.out.blk 3 rfl)).mono ?_; rintro e w_ ⟨rfl, rfl⟩
      go_wp2_with fail
      go_ret
      exact ⟨rfl, Hp.closeD S HM.out HI.out (Hp.dropN [_, _, _] HP.out)⟩
  · rw [if_pos h0, if_pos h0]
    have hd : (r != 0) = true := bne_iff_ne.2 h0
    clear h0
    go_enter Try.func11, Try.ntmps11
    go_wp2_with (first | ((with_reducible refine gate_dst (N := 3) rfl ?_); refine ev_boxv rfl 22 (.tmp 0) rfl (.pointer (some ⟨g, 0, none⟩)) rfl rfl ?_; intro b0 wa hge hg hb; have HPn := Aside0.mk (HP.out.newB hb hg hge); clear HP; have HP := HPn; clear HPn; clear hge hg hb) | ((with_reducible refine gate_dst (N := 4) rfl ?_); refine ev_boxv rfl 3 (.tmp 1) rfl (.int .i64 n) rfl rfl ?_; intro b1 wb hge hg hb; have HPn := Aside0.mk (HP.out.newB hb hg hge); clear HP; have HP := HPn; clear HPn; clear hge hg hb) | ((with_reducible refine gate_dst (N := 5) rfl ?_); refine ev_boxv rfl 27 (.tmp 2) rfl (.slice A bl c) rfl rfl ?_; intro b2 wc hge hg hb; have HPn := Aside0.mk (HP.out.newB hb hg hge); clear HP; have HP := HPn; clear HPn; clear hge hg hb; have h0 := blk_cell (HP.out.blk 2 rfl) 0; have h1 := blk_cell (HP.out.blk 1 rfl) 0; have h2 := blk_cell (HP.out.blk 0 rfl) 0))
    refine (HR.out _ (HP.out.blk 3 rfl)).mono ?_; rintro e w_ ⟨rfl, rfl⟩
    go_wp2_with fail
    go_ret
    exact ⟨rfl, Hp.closeD S HM.out HI.out (Hp.dropN [_, _, _] HP.out)⟩
end Go.Proofs.Ytejfocliopbocaa.D
