import Derived.Test.YtejfocliopbocaaD10
import Derived.Deep.LoopGhost
namespace Go.Proofs.Ytejfocliopbocaa.D
open Go.RowKit Go.Proofs.Ytejfocliopbocaa.XD Go.Proofs.YtejfocliopbocaaW.PrintWords Go.Proofs.YtejfocliopbocaaW.PrintLast Go.Proofs.YtejfocliopbocaaW.PrintMore Go.Proofs.YtejfocliopbocaaXe Go.Proofs.YtejfocliopbocaaXs
set_option linter.unusedVariables false
set_option linter.unusedSimpArgs false
attribute [local go_sem ↓] Go.wp_at_zero Go.wp_at_succ
def flushE (S : DS) : Int := if S.out = true ∨ S.fuse = 0 then 10 else 0
def flushS (S : DS) : DS := if S.out = true ∨ S.fuse = 0 then { S with out := true } else { S.step with at' := putF S.at' S.l, l := [] }
theorem putF_len : ∀ (l : List (Int × List Int)) (f : Int → List Int), (∀ k, (f k).length = 64) → (∀ p ∈ l, p.2.length = 64) → ∀ k, (putF f l k).length = 64
  | [], f, h, _, k => h k
  | p :: l, f, h, hl, k => by
    unfold putF
    rw [List.foldl_cons]
    refine putF_len l _ (fun j => ?_) (fun q hq => hl q (List.mem_cons_of_mem _ hq)) k
    split
    · exact hl p List.mem_cons_self
    · exact h j
theorem KL_len {w : World} {A : Option Addr} {n : Nat} {l : List (Int × List Int)} (h : KL.C w A n l) : ∀ p ∈ l, p.2.length = 64 := by
  intro p hp
  obtain ⟨j, hj, rfl⟩ := List.getElem_of_mem hp
  obtain ⟨b, o, rfl⟩ := C_addrK (by decide) h (by have := h.1; omega)
  obtain ⟨cs, ⟨_, h2⟩, _⟩ := range_K h (List.getElem?_eq_getElem hj)
  exact h2
theorem one_u8c (b : List Int) : ∀ u ∈ u8c b, u.oneCell' = true := by
  intro u h
  obtain ⟨x, _, rfl⟩ := List.mem_map.1 h
  rfl
theorem run_op_look {w : World} {g : Nat} {m : List Ent} {clock : Nat} (hg : w.heap[g]? = some (.map (rawM m) clock)) {o : Oper} {a : Act} {x y : Operand} {k : Int} (ho : o.op = .lookup 60 x y false) (hx : a.eval x = .map (some g)) (hy : a.eval y = .int .i64 k) : (execOp a.eval o).run Try.prog w = .ok (.value (.agg (u8c (look m k)).toArray)) w := by
  unfold execOp
  simp only [ho, hx, hy, Sem.run_bind, run_look hg k, Result.andThen_ok]
  rfl
set_option maxHeartbeats 8000000 in
set_option maxRecDepth 100000 in
theorem c_flush {w0 w : World} {Rs : List Res} (HP : Hp w0 w Rs) (i g : Nat) (S : DS) (hi : Rs[i]? = some (rDisk w0.heap.size g S)) (hl : S.l.length ≤ 1000000) :
    Calls Try.prog 12 #[.pointer (some ⟨g, 0, none⟩)] w fun e w' => e = .returned (.int .i64 (flushE S)) ∧ Hp w0 w' (Rs.set i (rDisk w0.heap.size g (flushS S))) := by
  obtain ⟨⟨gm, m, clock, v⟩, hm, HP0⟩ := HP.openE i hi
  have HP1 : Hp w0 w (.blk g (.cells (dC S.steps S.fuse S.out true S.many gm v).toArray 63 (0, 0)) :: .blk gm (.map (rawM m) clock) :: .row KL 70 w0.heap.size v S.l :: Rs.set i .none) := HP0
  have hil : i < Rs.length := (List.getElem?_eq_some_iff.1 hi).1
  have HPn := Aside0.mk HP1
  have HM := Aside0.mk hm
  have HI := Aside0.mk hil
  clear HP HP0 HP1 hm hil
  have HP := HPn
  clear HPn
  have HL := Aside0.mk hl
  unfold flushE flushS
  have HR := Aside0.mk (fun w hg => c_none g S.steps S.fuse S.out S.many gm v w hg)
  have HLN := Aside0.mk (show ∀ p ∈ S.l, p.2.length = 64 from by obtain ⟨A, c, rfl⟩ := Kd.R_slice (HP.out.row 2 rfl); exact KL_len (Kd.R_reads' (HP.out.row 2 rfl)).2.2)
  clear hl hi
  have HEN := Aside0.mk (fun w b0 => enters_fn (P := Try.prog) Try.func33 (by kernel_rfl) rfl #[.pointer (some ⟨b0, 0, none⟩)] w)
  have hmf : ∀ (fn : Fn) (first cap : Array Value) (w : World), (Instr.makeFunc fn first cap).run Try.prog w = .ok (.func fn first cap) w := fun fn first cap w => by simp [Instr.makeFunc]
  by_cases hc : S.out = true ∨ S.fuse = 0
  · rw [if_pos hc, if_pos hc]
    have HC := Aside0.mk hc
    clear hc
    go_enter Try.func12, Try.ntmps12
    go_wp2_with (first | ((with_reducible refine gate_dst (N := 1) rfl ?_); refine ev_boxv rfl 22 (.tmp 0) rfl (.pointer (some ⟨g, 0, none⟩)) rfl rfl ?_; intro b0 wa hge hg hb; have HPn := Aside0.mk (HP.out.newB hb hg hge); clear HP; have HP := HPn; clear HPn; clear hge hg hb; have h0 := blk_cell (HP.out.blk 0 rfl) 0))
    refine (HR.out _ (HP.out.blk 1 rfl)).mono ?_; rintro e w_ ⟨rfl, rfl⟩
    go_wp2_with fail
    clear h0
    refine (c_step0 HP.out 1 g S.steps S.fuse S.out true S.many gm v _ rfl HC.out).mono ?_; rintro e w2 ⟨rfl, hpn⟩
    have HPn := Aside0.mk hpn
    clear HP hpn
    have HP := HPn
    clear HPn
    go_wp2_with fail
    go_ret
    exact ⟨rfl, Hp.closeD { S with out := true } HM.out HI.out (Hp.dropN [_] HP.out)⟩
  · rw [if_neg hc, if_neg hc]
    have HO := Aside0.mk (show S.out = false by cases h : S.out with | false => rfl | true => exact absurd (.inl h) hc)
    have HF := Aside0.mk (show S.fuse ≠ 0 from fun h => hc (.inr h))
    rw [HO.out] at HP HR
    clear hc
    go_enter Try.func12, Try.ntmps12
    go_wp2_with (first | ((with_reducible refine gate_dst (N := 1) rfl ?_); refine ev_boxv rfl 22 (.tmp 0) rfl (.pointer (some ⟨g, 0, none⟩)) rfl rfl ?_; intro b0 wa hge hg hb; have HPn := Aside0.mk (HP.out.newB hb hg hge); clear HP; have HP := HPn; clear HPn; clear hge hg hb; have h0 := blk_cell (HP.out.blk 0 rfl) 0))
    refine (HR.out _ (HP.out.blk 1 rfl)).mono ?_; rintro e w_ ⟨rfl, rfl⟩
    go_wp2_with fail
    clear h0
    refine (c_step1 (Q := fun w' => ∃ m' clock', look m' = putF (look m) S.l ∧ Hp w0 w' (.blk b0 (.cells #[.pointer (some ⟨g, 0, none⟩)] 22 (0, 0)) :: .blk g (.cells (dC (wrap64 (S.steps + 1)) (burn S.fuse) false true S.many gm (.slice none 0 0)).toArray 63 (0, 0)) :: .blk gm (.map (rawM m') clock') :: .row KL 70 w0.heap.size (.slice none 0 0) [] :: Rs.set i .none)) HP.out 1 g S.steps S.fuse true S.many gm v _ _ rfl HF.out (fun w => HEN.out w b0) (fun w1 h1 => (c_flush1 g gm (wrap64 (S.steps + 1)) (burn S.fuse) S.many m clock v S.l HL.out b0 h1).mono fun e w' h => h)).mono ?_; rintro e w2 ⟨rfl, m', clock', hm', hpn⟩
    have HPn := Aside0.mk hpn
    have HM' := Aside0.mk hm'
    clear HP hpn hm'
    have HP := HPn
    clear HPn
    go_wp2_with fail
    go_ret
    refine ⟨rfl, Hp.closeD { S.step with at' := putF S.at' S.l, l := [] } (m := m') ⟨by rw [HM'.out, HM.out.1], putF_len _ _ HM.out.2 HLN.out⟩ HI.out (by have h := Hp.dropN [_] HP.out; rw [← HO.out] at h; exact h)⟩
set_option maxHeartbeats 8000000 in
set_option maxRecDepth 100000 in
theorem c_readE {w0 w : World} {Rs : List Res} (HP : Hp w0 w Rs) (i g : Nat) (S : DS) (hi : Rs[i]? = some (rDisk w0.heap.size g S)) (n : Int) (hr0 : S.readyE n ≠ 0) :
    Calls Try.prog 21 #[.pointer (some ⟨g, 0, none⟩), .int .i64 n] w fun e w' => e = .returned (.tuple #[.slice none 0 0, .int .i64 (S.readyE n)]) ∧ w' = w := by
  obtain ⟨⟨gm, m, clock, v⟩, hm, HP0⟩ := HP.openE i hi
  have HP1 : Hp w0 w (.blk g (.cells (dC S.steps S.fuse S.out true S.many gm v).toArray 63 (0, 0)) :: .blk gm (.map (rawM m) clock) :: .row KL 70 w0.heap.size v S.l :: Rs.set i .none) := HP0
  have hil : i < Rs.length := (List.getElem?_eq_some_iff.1 hi).1
  have HPn := Aside0.mk HP1
  have HM := Aside0.mk hm
  have HI := Aside0.mk hil
  clear HP HP0 HP1 hm hil
  have HP := HPn
  clear HPn
  have HR := Aside0.mk (fun w hg => c_ready g S.steps S.fuse S.out S.many gm v n w hg)
  clear hi
  obtain ⟨r, hr⟩ : ∃ z, S.readyE n = z := ⟨_, rfl⟩
  rw [show readyD S.out S.many n = r from hr] at HR
  rw [hr] at hr0 ⊢
  have hd : (r != 0) = true := bne_iff_ne.2 hr0
  clear hr hr0
  go_enter Try.func21, Try.ntmps21
  go_wp2_with fail
  refine (HR.out _ (HP.out.blk 0 rfl)).mono ?_; rintro e w_ ⟨rfl, rfl⟩
  go_wp2_with fail
  refine bodyPost_ret (results_two_tmps rfl _ _ rfl rfl) rfl ?_
  exact ⟨rfl, rfl⟩
set_option maxHeartbeats 8000000 in
set_option maxRecDepth 100000 in
theorem c_read {w0 w : World} {Rs : List Res} (HP : Hp w0 w Rs) (i g : Nat) (S : DS) (hi : Rs[i]? = some (rDisk w0.heap.size g S)) (n : Int) (hl : S.l.length ≤ 1000000) (hr0 : S.readyE n = 0) :
    Calls Try.prog 21 #[.pointer (some ⟨g, 0, none⟩), .int .i64 n] w fun e w' => ∃ gr, e = .returned (.tuple #[.slice (some ⟨gr, 0, none⟩) 64 64, .int .i64 0]) ∧ (putF S.at' S.l n).length = 64 ∧ Hp w0 w' (.blk gr (.cells (u8c (putF S.at' S.l n)).toArray 68 (0, 0)) :: Rs) := by
  have HSELF := Aside0.mk (show Rs.set i (rDisk w0.heap.size g S) = Rs from set_self hi)
  obtain ⟨⟨gm, m, clock, v⟩, hm, HP0⟩ := HP.openE i hi
  have HP1 : Hp w0 w (.blk g (.cells (dC S.steps S.fuse S.out true S.many gm v).toArray 63 (0, 0)) :: .blk gm (.map (rawM m) clock) :: .row KL 70 w0.heap.size v S.l :: Rs.set i .none) := HP0
  have hil : i < Rs.length := (List.getElem?_eq_some_iff.1 hi).1
  have HPn := Aside0.mk HP1
  have HM := Aside0.mk hm
  have HI := Aside0.mk hil
  clear HP HP0 HP1 hm hil
  have HP := HPn
  clear HPn
  have HR := Aside0.mk (fun w hg => c_ready g S.steps S.fuse S.out S.many gm v n w hg)
  rw [show readyD S.out S.many n = 0 from hr0] at HR
  obtain ⟨Av, cv, rfl⟩ := Kd.R_slice (HP.out.row 2 rfl)
  have HLN := Aside0.mk (KL_len (Kd.R_reads' (HP.out.row 2 rfl)).2.2)
  have hll : (S.l.length : Int) ≤ 1000000 := by omega
  have HLK := Aside0.mk (show (look m n).length = 64 by rw [HM.out.1]; exact HM.out.2 n)
  have hcut : ∀ (g : Nat) (w : World), (Instr.sliceAt 68 (.pointer (some ⟨g, 0, none⟩)) none none none).run Try.prog w = .ok (.slice (some ⟨g, 0, none⟩) 64 64) w := fun g w => run_cut_all (P := Try.prog) Try.underlying68 (by kernel_rfl) (by decide) g 0 w
  have h5 : w.cell? ⟨g, 5, none⟩ = some (.map (some gm)) := blk_cell (HP.out.blk 0 rfl) 5
  clear hi hl hr0
  go_enter Try.func21, Try.ntmps21
  go_wp2_with fail
  refine (HR.out _ (HP.out.blk 0 rfl)).mono ?_; rintro e w_ ⟨rfl, rfl⟩
  go_wp2_with (first | ((with_reducible refine gate_dst (N := 21) rfl ?_); refine ev_run rfl (run_op_look (HP.out.blk 1 rfl) (x := .tmp 19) (y := .tmp 20) (by rfl) (by rfl) (by rfl)) ?_) | ((with_reducible refine gate_dst (N := 7) rfl ?_); refine ev_alloc rfl 68 rfl (.agg (u8c s64).toArray) (by kernel_rfl) ?_; intro gs wa hge hg hb; have HPn := Aside0.mk (HP.out.newB hb hg hge); clear HP; have HP := HPn; clear HPn; clear hge hg hb) | ((with_reducible refine gate_store (t := 68) (p := 7) rfl ?_); refine ev_store rfl 68 (.tmp 7) (.tmp 21) rfl rfl _ rfl (cells := (u8c (look m n)).toArray) rfl (HP.out.blk 0 rfl) (by rw [List.size_toArray, u8c_len, HLK.out]; kernel_rfl) (show (u8c s64).toArray.size = (u8c (look m n)).toArray.size from by rw [List.size_toArray, List.size_toArray, u8c_len, u8c_len, HLK.out]; rfl) (all_oneCell_toArray (one_u8c _)) ?_; intro wb hg hgr; have HPn := Aside0.mk (HP.out.setB 0 rfl hgr hg); clear HP; have HP := HPn; clear HPn; clear hg hgr; have h6 : wb.cell? ⟨g, 6, none⟩ = some (.slice Av S.l.length cv) := blk_cell (HP.out.blk 1 rfl) 6))
  clear h5 h6
  go_loopg [27] S.l.length (fun kq v27 w' => ∃ (j : Nat) (x : Int) (bb : List Int), v27 = .int .i64 x ∧ Aside0 (x = (j : Int)) ∧ Aside0 (kq + j = S.l.length) ∧ Aside0 (bb = putF (look m) (S.l.take j) n ∧ bb.length = 64) ∧ Aside0 (Hp w0 w' (.blk gs (.cells (u8c bb).toArray 68 (0, 0)) :: .blk g (.cells (dC S.steps S.fuse S.out true S.many gm (.slice Av S.l.length cv)).toArray 63 (0, 0)) :: .blk gm (.map (rawM m) clock) :: .row KL 70 w0.heap.size (.slice Av S.l.length cv) S.l :: Rs.set i .none)))
  case atStart => exact ⟨0, 0, look m n, rfl, ⟨rfl⟩, ⟨rfl⟩, ⟨rfl, HLK.out⟩, HP⟩
  clear HP
  obtain ⟨j, x, bb, rfl, HX, HK, HBB, HP⟩ := hrel
  have hx := HX.out
  by_cases c1 : j < S.l.length
  · have d1 : decide (x < (S.l.length : Int)) = true := decide_eq_true (by omega)
    have ex : IntKind.i64.wrap (x + 1) = x + 1 := IntWalk.i64_in _ (by omega)
    have p0 : 0 ≤ x := by omega
    have q0 : x < (S.l.length : Int) := by omega
    obtain ⟨⟨n1, b⟩, hnb⟩ : ∃ p, S.l[j]? = some p := ⟨_, List.getElem?_eq_getElem c1⟩
    have hC := (Kd.R_reads' (HP.out.row 3 rfl)).2.2
    obtain ⟨Ab, Ao, rfl⟩ := C_addrK (by decide) hC (by omega)
    obtain ⟨cs, ⟨hcs, hbl⟩, hra⟩ := range_K hC hnb
    have hcs2 : cs = lc n1 b := hcs
    subst hcs2
    have hxt : x.toNat = j := by omega
    rw [show KL.sz = 65 from rfl, ← hxt] at hra
    have HRA := Aside0.mk hra
    have HNB := Aside0.mk hnb
    have HBL := Aside0.mk hbl
    have hi65 : (Try.prog.info? 70).map (·.size) = some (lc n1 b).length := by rw [lc_len n1 b hbl]; kernel_rfl
    have hi64 : (Try.prog.info? 68).map (·.size) = some (u8c b).length := by rw [u8c_len, hbl]; kernel_rfl
    have hu := Try.underlying68
    clear hx c1 hC hra hxt hnb hbl
    by_cases c2 : n1 = n
    · have d2 : (n1 == n) = true := beq_iff_eq.2 c2
      have HC2 := Aside0.mk c2
      clear c2
      go_wp2_with (first | ((with_reducible refine gate_dst (N := 30) rfl ?_); refine ev_elem rfl 70 (.tmp 29) rfl Ab (Ao + x.toNat * 65) rfl (lc n1 b) HRA.out Try.underlying70 rfl hi65 ?_) | ((with_reducible refine gate_dst (N := 9) rfl ?_); refine ev_alloc rfl 70 rfl (.agg (lc 0 s64).toArray) (by kernel_rfl) ?_; intro gx wa hge hg hb; have HPn := Aside0.mk (HP.out.newB hb hg hge); clear HP; have HP := HPn; clear HPn; clear hge hg hb) | ((with_reducible refine gate_store (t := 70) (p := 9) rfl ?_); refine ev_store rfl 70 (.tmp 9) (.tmp 30) rfl rfl _ rfl (cells := (lc n1 b).toArray) rfl (HP.out.blk 0 rfl) (by rw [List.size_toArray]; exact hi65) (show (lc 0 s64).toArray.size = (lc n1 b).toArray.size from by rw [List.size_toArray, List.size_toArray, lc_len n1 b HBL.out]; rfl) (all_oneCell_toArray (one_lc n1 b)) ?_; intro wb hg hgr; have HPn := Aside0.mk (HP.out.setB 0 rfl hgr hg); clear HP; have HP := HPn; clear HPn; clear hg hgr; have hc0 : wb.cell? ⟨gx, 0, none⟩ = some (.int .i64 n1) := blk_cell (HP.out.blk 0 rfl) 0) | ((with_reducible refine gate_dst (N := 36) rfl ?_); refine ev_elem rfl 68 (.tmp 35) rfl gx 1 rfl (u8c b) (range_tail (HP.out.blk 0 rfl)) hu rfl hi64 ?_) | ((with_reducible refine gate_store (t := 68) (p := 7) rfl ?_); refine ev_store rfl 68 (.tmp 7) (.tmp 36) rfl rfl _ rfl (cells := (u8c b).toArray) rfl (HP.out.blk 1 rfl) (by rw [List.size_toArray]; exact hi64) (show (u8c bb).toArray.size = (u8c b).toArray.size from by rw [List.size_toArray, List.size_toArray, u8c_len, u8c_len, HBL.out, HBB.out.2]) (all_oneCell_toArray (one_u8c _)) ?_; intro wc hg hgr; have HPn := Aside0.mk (HP.out.setB 1 rfl hgr hg); clear HP; have HP := HPn; clear HPn; clear hg hgr))
      have HPn := HP.out.drop1
      clear HP hc0
      go_roundg (gk - 1)
      case measure => have := HK.out; have := (List.getElem?_eq_some_iff.1 HNB.out).1; omega
      case rel => exact ⟨j + 1, x + 1, b, rfl, ⟨by have := HX.out; omega⟩, ⟨by have := HK.out; have := (List.getElem?_eq_some_iff.1 HNB.out).1; omega⟩, ⟨by rw [take_snocD S.l j _ HNB.out, putF_snoc]; simp [HC2.out], HBL.out⟩, ⟨HPn⟩⟩
    · have d2 : (n1 == n) = false := beq_eq_false_iff_ne.2 c2
      have HC2 := Aside0.mk c2
      clear c2
      go_wp2_with (first | ((with_reducible refine gate_dst (N := 30) rfl ?_); refine ev_elem rfl 70 (.tmp 29) rfl Ab (Ao + x.toNat * 65) rfl (lc n1 b) HRA.out Try.underlying70 rfl hi65 ?_) | ((with_reducible refine gate_dst (N := 9) rfl ?_); refine ev_alloc rfl 70 rfl (.agg (lc 0 s64).toArray) (by kernel_rfl) ?_; intro gx wa hge hg hb; have HPn := Aside0.mk (HP.out.newB hb hg hge); clear HP; have HP := HPn; clear HPn; clear hge hg hb) | ((with_reducible refine gate_store (t := 70) (p := 9) rfl ?_); refine ev_store rfl 70 (.tmp 9) (.tmp 30) rfl rfl _ rfl (cells := (lc n1 b).toArray) rfl (HP.out.blk 0 rfl) (by rw [List.size_toArray]; exact hi65) (show (lc 0 s64).toArray.size = (lc n1 b).toArray.size from by rw [List.size_toArray, List.size_toArray, lc_len n1 b HBL.out]; rfl) (all_oneCell_toArray (one_lc n1 b)) ?_; intro wb hg hgr; have HPn := Aside0.mk (HP.out.setB 0 rfl hgr hg); clear HP; have HP := HPn; clear HPn; clear hg hgr; have hc0 : wb.cell? ⟨gx, 0, none⟩ = some (.int .i64 n1) := blk_cell (HP.out.blk 0 rfl) 0) | ((with_reducible refine gate_dst (N := 36) rfl ?_); refine ev_elem rfl 68 (.tmp 35) rfl gx 1 rfl (u8c b) (range_tail (HP.out.blk 0 rfl)) hu rfl hi64 ?_) | ((with_reducible refine gate_store (t := 68) (p := 7) rfl ?_); refine ev_store rfl 68 (.tmp 7) (.tmp 36) rfl rfl _ rfl (cells := (u8c b).toArray) rfl (HP.out.blk 1 rfl) (by rw [List.size_toArray]; exact hi64) (show (u8c bb).toArray.size = (u8c b).toArray.size from by rw [List.size_toArray, List.size_toArray, u8c_len, u8c_len, HBL.out, HBB.out.2]) (all_oneCell_toArray (one_u8c _)) ?_; intro wc hg hgr; have HPn := Aside0.mk (HP.out.setB 1 rfl hgr hg); clear HP; have HP := HPn; clear HPn; clear hg hgr))
      have HPn := HP.out.drop1
      clear HP hc0
      go_roundg (gk - 1)
      case measure => have := HK.out; have := (List.getElem?_eq_some_iff.1 HNB.out).1; omega
      case rel => exact ⟨j + 1, x + 1, bb, rfl, ⟨by have := HX.out; omega⟩, ⟨by have := HK.out; have := (List.getElem?_eq_some_iff.1 HNB.out).1; omega⟩, ⟨by rw [take_snocD S.l j _ HNB.out, putF_snoc]; simp [HC2.out, HBB.out.1], HBB.out.2⟩, ⟨HPn⟩⟩
  · have d1 : decide (x < (S.l.length : Int)) = false := decide_eq_false (by omega)
    have HE := Aside0.mk (show bb = putF S.at' S.l n by rw [HBB.out.1, HM.out.1, List.take_of_length_le (by omega)])
    clear hx c1
    go_wp2_with fail
    refine bodyPost_ret (results_two_tmps rfl _ _ rfl rfl) rfl ?_
    refine ⟨gs, rfl, by rw [← HE.out]; exact HBB.out.2, ?_⟩
    rw [HE.out] at HP
    have h1 : Hp w0 wr ([.blk g (.cells (dC S.steps S.fuse S.out true S.many gm (.slice Av S.l.length cv)).toArray 63 (0, 0)), .blk gm (.map (rawM m) clock), .row KL 70 w0.heap.size (.slice Av S.l.length cv) S.l] ++ (.blk gs (.cells (u8c (putF S.at' S.l n)).toArray 68 (0, 0)) :: Rs.set i .none)) := HP.out.rot3
    have h2 := Hp.closeE (p := diskP S) (diskL w0.heap.size g S) (gm, m, clock, .slice Av S.l.length cv) HM.out (i + 1) (Rs := .blk gs (.cells (u8c (putF S.at' S.l n)).toArray 68 (0, 0)) :: Rs) (by simpa using HI.out) h1
    have h3 : Hp w0 wr (.blk gs (.cells (u8c (putF S.at' S.l n)).toArray 68 (0, 0)) :: Rs.set i (rDisk w0.heap.size g S)) := h2
    rw [HSELF.out] at h3
    exact h3
end Go.Proofs.Ytejfocliopbocaa.D
