import Derived.Test.YtlgnfbgjdkbfoaaS09
import Derived.Test.YtlgnfbgjdkbfoaaS08
namespace Go.Proofs.Ytlgnfbgjdkbfoaa.Pg
open Go.RowKit Go.Proofs.Ytlgnfbgjdkbfoaa.XH Go.Proofs.Ytlgnfbgjdkbfoaa.Wd Go.Proofs.YtlgnfbgjdkbfoaaW.PrintWords Go.Proofs.YtlgnfbgjdkbfoaaW.PrintLast Go.Proofs.YtlgnfbgjdkbfoaaW.PrintMore Go.Proofs.YtlgnfbgjdkbfoaaXe Go.Proofs.YtlgnfbgjdkbfoaaXs
set_option linter.unusedVariables false
set_option linter.unusedSimpArgs false
attribute [local go_sem ↓] Go.wp_at_zero Go.wp_at_succ
def lvOk (lv : Int) : Bool := decide (0 ≤ lv) && decide (lv ≤ 20)
theorem level_f (lv : Int) : page_level.f lv = some (lvOk lv) := by
  unfold page_level.f lvOk
  by_cases h : 0 ≤ lv
  · rw [if_pos h, decide_eq_true h, Bool.true_and]
  · rw [if_neg h, decide_eq_false h, Bool.false_and]
/-- why a page may not be -/
def pageS (lv : Int) (l1 : List S55) (l2 : List S66) : Int :=
  if lvOk lv = false then 5 else if l1.length + l2.length > 16 then 3 else if lv = 0 then (if 0 < l2.length then 2 else if checkS l1 = 0 then 0 else 2) else (if 0 < l1.length then 2 else if linksS l2 = true then 0 else 2)
set_option maxHeartbeats 8000000 in
set_option maxRecDepth 100000 in
theorem c_pfine (Ak : Option Addr) (nk ck : Nat) (A : Option Addr) (c : Nat) (l : List S55) (w : World) (h1 : k55.C w A l.length l) (hc : l.length ≤ c) (hl : l.length ≤ 1000000) :
    Calls Try.prog 123 #[.agg #[.slice Ak nk ck, .slice A l.length c]] w fun e w' => e = .returned (.bool (decide (checkS l = 0))) ∧ Below w.heap.size w w' := by
  have HR := Aside0.mk h1
  have HC := Aside0.mk hc
  have HL := Aside0.mk hl
  have HP := Aside0.mk (Hp.start w)
  clear h1 hl hc
  go_enter Try.func123, Try.ntmps123
  go_wp2_with (first | ((with_reducible refine gate_dst (N := 1) rfl ?_); refine ev_box rfl 111 (.tmp 0) rfl (#[.slice Ak nk ck, .slice A l.length c]) rfl ?_; intro g1 wa hge hg hb; have HPn := Aside0.mk (HP.out.newB hb hg hge); clear HP; have HP := HPn; clear HPn; clear hge hg hb; have hc1 : wa.cell? ⟨g1, 1, none⟩ = some (.slice A l.length c) := blk_cell (HP.out.blk 0 rfl) 1))
  refine (c_check A c l wa (Kd.C_below HR.out HP.out.below) HC.out HL.out).mono ?_; rintro e wf ⟨rfl, hb⟩
  have HPn := Aside0.mk (HP.out.call hb)
  clear HP hb hc1
  have HP := HPn
  clear HPn
  obtain ⟨q, hqe⟩ : ∃ q, checkS l = q := ⟨_, rfl⟩
  rw [hqe]
  have HQ := Aside0.mk hqe
  clear hqe
  by_cases hq : q = 0
  · subst hq
    go_wp2_with fail
    go_ret
    exact ⟨by rw [HQ.out]; rfl, HP.out.below⟩
  · have h1 : (q == 0) = false := by simpa using hq
    have h2 : decide (q = 0) = false := decide_eq_false hq
    clear hq
    go_wp2_with fail
    go_ret
    exact ⟨by rw [HQ.out, h2]; rfl, HP.out.below⟩
set_option maxHeartbeats 8000000 in
set_option maxRecDepth 100000 in
theorem c_pcheck (lv : Int) (A1 : Option Addr) (c1 : Nat) (l1 : List S55) (A2 : Option Addr) (c2 : Nat) (l2 : List S66) (w : World) (h1 : k55.C w A1 l1.length l1) (h2 : k66.C w A2 l2.length l2) (hc1 : l1.length ≤ c1) (hc2 : l2.length ≤ c2) (hl1 : l1.length ≤ 1000000) (hl2 : l2.length ≤ 1000000) :
    Calls Try.prog 18 #[.agg #[.int .i64 lv, .slice A1 l1.length c1, .slice A2 l2.length c2]] w fun e w' => e = .returned (.int .i64 (pageS lv l1 l2)) ∧ Below w.heap.size w w' := by
  have H1 := Aside0.mk h1
  have H2 := Aside0.mk h2
  have HL := Aside0.mk (And.intro hl1 hl2)
  have HC := Aside0.mk (And.intro hc1 hc2)
  have HP := Aside0.mk (Hp.start w)
  have es : IntKind.i64.wrap ((l1.length : Int) + (l2.length : Int)) = (l1.length : Int) + (l2.length : Int) := IntWalk.i64_in _ (by omega)
  clear h1 h2 hl1 hl2 hc1 hc2
  go_enter Try.func18, Try.ntmps18
  go_wp2_with (first | ((with_reducible refine gate_dst (N := 1) rfl ?_); refine ev_box rfl 27 (.tmp 0) rfl (#[.int .i64 lv, .slice A1 l1.length c1, .slice A2 l2.length c2]) rfl ?_; intro g1 wa hge hg hb; have HPn := Aside0.mk (HP.out.newB hb hg hge); clear HP; have HP := HPn; clear HPn; clear hge hg hb; have hc0 : wa.cell? ⟨g1, 0, none⟩ = some (.int .i64 lv) := blk_cell (HP.out.blk 0 rfl) 0; have hc1 : wa.cell? ⟨g1, 1, none⟩ = some (.slice A1 l1.length c1) := blk_cell (HP.out.blk 0 rfl) 1; have hc2 : wa.cell? ⟨g1, 2, none⟩ = some (.slice A2 l2.length c2) := blk_cell (HP.out.blk 0 rfl) 2))
  refine (page_level.calls lv (lvOk lv) wa (level_f lv)).mono ?_; rintro e wf ⟨rfl, hd⟩
  obtain ⟨nd_, rfl⟩ := hd
  have HPn := Aside0.mk (HP.out.drewN nd_)
  clear HP hc0 hc1 hc2
  have HP := HPn
  clear HPn
  have hc0 : (wa.drewN nd_).cell? ⟨g1, 0, none⟩ = some (.int .i64 lv) := blk_cell (HP.out.blk 0 rfl) 0
  have hc1 : (wa.drewN nd_).cell? ⟨g1, 1, none⟩ = some (.slice A1 l1.length c1) := blk_cell (HP.out.blk 0 rfl) 1
  have hc2 : (wa.drewN nd_).cell? ⟨g1, 2, none⟩ = some (.slice A2 l2.length c2) := blk_cell (HP.out.blk 0 rfl) 2
  generalize wa.drewN nd_ = wb at *
  by_cases ko : lvOk lv = true
  · rw [ko]
    by_cases k3 : l1.length + l2.length > 16
    · have d3 : decide ((16 : Int) < (l1.length : Int) + (l2.length : Int)) = true := decide_eq_true (by omega)
      have HE := Aside0.mk (show pageS lv l1 l2 = 3 from by unfold pageS; rw [if_neg (by rw [ko]; decide), if_pos k3])
      clear k3
      go_wp2_with fail
      go_ret
      exact ⟨by rw [HE.out]; rfl, HP.out.below⟩
    · have d3 : decide ((16 : Int) < (l1.length : Int) + (l2.length : Int)) = false := decide_eq_false (by omega)
      have HE := Aside0.mk (show pageS lv l1 l2 = if lv = 0 then (if 0 < l2.length then 2 else if checkS l1 = 0 then 0 else 2) else (if 0 < l1.length then 2 else if linksS l2 = true then 0 else 2) from by unfold pageS; rw [if_neg (by rw [ko]; decide), if_neg k3])
      clear k3
      by_cases hlv : lv = 0
      · have d0 : decide (lv = 0) = true := decide_eq_true hlv
        have d0b : (lv == 0) = true := by simpa using hlv
        have d0c : decide (0 < lv) = false := decide_eq_false (by omega)
        rw [if_pos hlv] at HE
        by_cases k2 : 0 < l2.length
        · have d2 : decide ((0 : Int) < (l2.length : Int)) = true := decide_eq_true (by omega)
          have d2n : decide (0 < l2.length) = true := decide_eq_true (by omega)
          rw [if_pos k2] at HE
          clear k2 hlv
          go_wp2_with fail
          go_ret
          exact ⟨by rw [HE.out]; rfl, HP.out.below⟩
        · have d2 : decide ((0 : Int) < (l2.length : Int)) = false := decide_eq_false (by omega)
          have d2n : decide (0 < l2.length) = false := decide_eq_false (by omega)
          rw [if_neg k2] at HE
          have HV := Aside0.mk hlv
          clear k2 hlv
          go_wp2_with (first | ((with_reducible refine gate_dst (N := 38) rfl ?_); refine ev_load rfl 27 (.tmp 1) rfl g1 rfl (HP.out.blk 0 rfl) Try.underlying27 rfl (by kernel_rfl) ?_))
          refine (c_of0 lv A1 c1 l1 A2 c2 l2 wb HV.out (Kd.C_below H1.out HP.out.below) HL.out.1).mono ?_; rintro e we ⟨vk, rfl, hR, hb⟩
          obtain ⟨Ak, ck, rfl⟩ := Kd.R_slice hR
          have HPn := Aside0.mk (HP.out.call hb)
          clear HP hR hb hc0 hc1 hc2
          have HP := HPn
          clear HPn
          have hm : ∀ W, (method 258 111 (.agg #[.slice Ak l1.length ck, .slice A1 l1.length c1]) "retcon/page.fine").run Try.prog W = .ok (123, .agg #[.slice Ak l1.length ck, .slice A1 l1.length c1]) W := fun _ => by kernel_rfl
          have CC := Aside0.mk (c_pfine Ak l1.length ck A1 c1 l1 we (Kd.C_below H1.out HP.out.below) HC.out.1 HL.out.1)
          simp only [List.length_map] at CC ⊢
          go_wp2_with fail
          refine CC.out.mono ?_; rintro e wg ⟨rfl, hb⟩
          have HPn := Aside0.mk (HP.out.call hb)
          clear HP hb CC hm
          have HP := HPn
          clear HPn
          by_cases hq : checkS l1 = 0
          · rw [if_pos hq] at HE
            rw [decide_eq_true hq]
            go_wp2_with fail
            go_ret
            exact ⟨by rw [HE.out]; rfl, HP.out.below⟩
          · rw [if_neg hq] at HE
            rw [decide_eq_false hq]
            go_wp2_with fail
            go_ret
            exact ⟨by rw [HE.out]; rfl, HP.out.below⟩
      · have d0 : decide (lv = 0) = false := decide_eq_false hlv
        have d0b : (lv == 0) = false := by simpa using hlv
        have d0c : decide (0 < lv) = true := decide_eq_true (by simp only [lvOk, Bool.and_eq_true, decide_eq_true_eq] at ko; omega)
        rw [if_neg hlv] at HE
        by_cases k2 : 0 < l1.length
        · have d2 : decide ((0 : Int) < (l1.length : Int)) = true := decide_eq_true (by omega)
          have d2n : decide (0 < l1.length) = true := decide_eq_true (by omega)
          rw [if_pos k2] at HE
          clear k2 hlv
          go_wp2_with fail
          go_ret
          exact ⟨by rw [HE.out]; rfl, HP.out.below⟩
        · have d2 : decide ((0 : Int) < (l1.length : Int)) = false := decide_eq_false (by omega)
          have d2n : decide (0 < l1.length) = false := decide_eq_false (by omega)
          rw [if_neg k2] at HE
          have HV := Aside0.mk hlv
          clear k2 hlv
          go_wp2_with (first | ((with_reducible refine gate_dst (N := 38) rfl ?_); refine ev_load rfl 27 (.tmp 1) rfl g1 rfl (HP.out.blk 0 rfl) Try.underlying27 rfl (by kernel_rfl) ?_))
          refine (c_of1 lv A1 c1 l1 A2 c2 l2 wb HV.out (Kd.C_below H2.out HP.out.below) HL.out.2).mono ?_; rintro e we ⟨vk, rfl, hR, hb⟩
          obtain ⟨Ak, ck, rfl⟩ := Kd.R_slice hR
          have HPn := Aside0.mk (HP.out.call hb)
          clear HP hR hb hc0 hc1 hc2
          have HP := HPn
          clear HPn
          have hm : ∀ W, (method 258 113 (.agg #[.slice Ak l2.length ck, .slice A2 l2.length c2]) "retcon/page.fine").run Try.prog W = .ok (125, .agg #[.slice Ak l2.length ck, .slice A2 l2.length c2]) W := fun _ => by kernel_rfl
          have CC := Aside0.mk (c_lfine Ak l2.length ck A2 c2 l2 we (Kd.C_below H2.out HP.out.below) HL.out.2)
          simp only [List.length_map] at CC ⊢
          go_wp2_with fail
          refine CC.out.mono ?_; rintro e wg ⟨rfl, hb⟩
          have HPn := Aside0.mk (HP.out.call hb)
          clear HP hb CC hm
          have HP := HPn
          clear HPn
          by_cases hq : linksS l2 = true
          · rw [if_pos hq] at HE
            rw [hq]
            go_wp2_with fail
            go_ret
            exact ⟨by rw [HE.out]; rfl, HP.out.below⟩
          · rw [if_neg hq] at HE
            rw [Bool.not_eq_true _ |>.mp hq]
            go_wp2_with fail
            go_ret
            exact ⟨by rw [HE.out]; rfl, HP.out.below⟩
  · have kf : lvOk lv = false := by simpa using ko
    rw [kf]
    have HE := Aside0.mk (show pageS lv l1 l2 = 5 from by unfold pageS; rw [if_pos kf])
    go_wp2_with fail
    go_ret
    exact ⟨by rw [HE.out]; rfl, HP.out.below⟩
end Go.Proofs.Ytlgnfbgjdkbfoaa.Pg
namespace Go.Proofs.Ytlgnfbgjdkbfoaa.Pg
open Go.RowKit Go.Proofs.Ytlgnfbgjdkbfoaa.XH Go.Proofs.Ytlgnfbgjdkbfoaa.Wd Go.Proofs.YtlgnfbgjdkbfoaaW.PrintWords Go.Proofs.YtlgnfbgjdkbfoaaW.PrintLast Go.Proofs.YtlgnfbgjdkbfoaaW.PrintMore Go.Proofs.YtlgnfbgjdkbfoaaXe Go.Proofs.YtlgnfbgjdkbfoaaXs
set_option linter.unusedVariables false
set_option linter.unusedSimpArgs false
attribute [local go_sem ↓] Go.wp_at_zero Go.wp_at_succ
/-- a pair's bytes, a link's -/
def encPair (x : S55) : List Int := encN (x.f0.size : Int) ++ bytesOf x.f0 ++ (encN (x.f1.size : Int) ++ bytesOf x.f1)
def by63 (x : S63) : List Int := [x.f0, x.f1, x.f2, x.f3, x.f4, x.f5, x.f6, x.f7, x.f8, x.f9, x.f10, x.f11, x.f12, x.f13, x.f14, x.f15, x.f16, x.f17, x.f18, x.f19, x.f20, x.f21, x.f22, x.f23, x.f24, x.f25, x.f26, x.f27, x.f28, x.f29, x.f30, x.f31]
def encLink (x : S66) : List Int := encN (x.f0.size : Int) ++ bytesOf x.f0 ++ (by63 x.f1 ++ encN x.f2)
theorem encN_len (n : Int) : (encN n).length ≤ 10 := encF_len 9 n
theorem encPair_len (x : S55) (h0 : x.f0.size ≤ 1000) (h1 : x.f1.size ≤ 1000) : (encPair x).length ≤ 2100 := by
  have a := encN_len (x.f0.size : Int)
  have b := encN_len (x.f1.size : Int)
  simp only [encPair, List.length_append, bytesOf_length]
  omega
theorem encLink_len (x : S66) (h0 : x.f0.size ≤ 1000) : (encLink x).length ≤ 2100 := by
  have a := encN_len (x.f0.size : Int)
  have b := encN_len x.f2
  simp only [encLink, List.length_append, bytesOf_length, by63, List.length_cons, List.length_nil]
  omega
theorem flat_len {α : Type} (f : α → List Int) (m : Nat) (l : List α) (h : ∀ x ∈ l, (f x).length ≤ m) : (l.flatMap f).length ≤ m * l.length := by
  induction l with
  | nil => simp
  | cons x l ih =>
    have h1 := h x (List.mem_cons_self ..)
    have h2 := ih fun z hz => h z (List.mem_cons_of_mem _ hz)
    simp only [List.flatMap_cons, List.length_append, List.length_cons, Nat.mul_succ]
    omega
theorem range_id {w : World} {b : Nat} {x : S66} {t : TypeId} (h : w.heap[b]? = some (.cells (c66 x).toArray t (0, 0))) : w.rangeAt b 1 (by8 (by63 x.f1)) := fun j v hv => by
  have hq := blk_cell h (1 + j)
  rw [hq, List.getElem?_toArray, show c66 x = .string x.f0 :: (by8 (by63 x.f1) ++ [.int .i64 x.f2]) from rfl, Nat.add_comm, List.getElem?_cons_succ, List.getElem?_append_left (List.getElem?_eq_some_iff.1 hv).1]
  exact hv
set_option maxHeartbeats 8000000 in
set_option maxRecDepth 100000 in
theorem c_b1 {w0 w : World} {Rs : List Res} (HP : Hp w0 w Rs) (i g : Nat) (xs : List Int) (hi : Rs[i]? = some (rWriter w0.heap.size g xs 0)) (x : S55) (h0 : x.f0.size ≤ 1000) (h1 : x.f1.size ≤ 1000) (hx : xs.length ≤ 1000000000) :
    Calls Try.prog 52 #[.pointer (some ⟨g, 0, none⟩), .agg (c55 x).toArray] w fun e w' => e = .returned (.tuple #[]) ∧ Hp w0 w' (Rs.set i (rWriter w0.heap.size g (xs ++ encPair x) 0)) := by
  have HPn := Aside0.mk HP
  have HI := Aside0.mk (show ∀ X : Res, (X :: Rs)[i + 1]? = some (rWriter w0.heap.size g xs 0) from fun X => hi)
  have HLT := Aside0.mk (List.getElem?_eq_some_iff.1 hi).1
  have H0 := Aside0.mk h0
  have H1 := Aside0.mk h1
  have HX := Aside0.mk hx
  clear HP hi h0 h1 hx
  have HP := HPn
  clear HPn
  go_enter Try.func52, Try.ntmps52
  go_wp2_with (first | ((with_reducible refine gate_dst (N := 3) rfl ?_); refine ev_box rfl 55 (.tmp 1) rfl ((c55 x).toArray) rfl ?_; intro gx wa hge hg hb_; have HPn := Aside0.mk (HP.out.newB hb_ hg hge); clear HP; have HP := HPn; clear HPn; clear hge hg hb_; have hca : wa.cell? ⟨gx, 0, none⟩ = some (.string x.f0) := blk_cell (HP.out.blk 0 rfl) 0))
  refine (c_wtext HP.out (i + 1) g xs 0 (HI.out _) x.f0 (by have := H0.out; omega) (by have := HX.out; omega)).mono ?_; rintro e wb ⟨rfl, hpn⟩
  clear HP hca
  have HP := Aside0.mk hpn
  clear hpn
  simp only [List.set_cons_succ] at HP
  (try rw [List.set_set] at HP)
  have HI := Aside0.mk (show ∀ X : Res, (X :: Rs.set i (rWriter w0.heap.size g (xs ++ encN (x.f0.size : Int) ++ bytesOf x.f0) 0))[i + 1]? = some (rWriter w0.heap.size g (xs ++ encN (x.f0.size : Int) ++ bytesOf x.f0) 0) from fun X => set_get _ HLT.out)
  have hca : wb.cell? ⟨gx, 1, none⟩ = some (.string x.f1) := blk_cell (HP.out.blk 0 rfl) 1
  go_wp2_with fail
  refine (c_wtext HP.out (i + 1) g (xs ++ encN (x.f0.size : Int) ++ bytesOf x.f0) 0 (HI.out _) x.f1 (by have := H1.out; omega) (by have h1 := HX.out; have h2 := H0.out; have h3 := encN_len (x.f0.size : Int); simp only [List.length_append, bytesOf_length]; omega)).mono ?_; rintro e wc ⟨rfl, hpn⟩
  clear HP hca
  have HP := Aside0.mk hpn
  clear hpn
  simp only [List.set_cons_succ] at HP
  (try rw [List.set_set] at HP)
  have HI := Aside0.mk (show ∀ X : Res, (X :: Rs.set i (rWriter w0.heap.size g (xs ++ encN (x.f0.size : Int) ++ bytesOf x.f0 ++ encN (x.f1.size : Int) ++ bytesOf x.f1) 0))[i + 1]? = some (rWriter w0.heap.size g (xs ++ encN (x.f0.size : Int) ++ bytesOf x.f0 ++ encN (x.f1.size : Int) ++ bytesOf x.f1) 0) from fun X => set_get _ HLT.out)
  go_wp2_with fail
  refine bodyPost_end (v := .tuple #[]) (by simp [results, Try.results52, go_sem]) rfl ?_
  exact ⟨rfl, by
    have h := Hp.drop1 HP.out
    (try simp only [List.set_set] at h)
    rw [show xs ++ encPair x = xs ++ encN (x.f0.size : Int) ++ bytesOf x.f0 ++ encN (x.f1.size : Int) ++ bytesOf x.f1 from by simp only [encPair, List.append_assoc]]
    exact h⟩
set_option maxHeartbeats 8000000 in
set_option maxRecDepth 100000 in
theorem c_put1 {w0 w : World} {Rs : List Res} (HP : Hp w0 w Rs) (i g : Nat) (xs : List Int) (hi : Rs[i]? = some (rWriter w0.heap.size g xs 0)) (A : Option Addr) (c : Nat) (l : List S55) (hl : l.length ≤ 1000) (h1 : k55.C w0 A l.length l) (hx : ∀ x ∈ l, x.f0.size ≤ 1000 ∧ x.f1.size ≤ 1000) (hxs : xs.length ≤ 1000) :
    Calls Try.prog 51 #[.pointer (some ⟨g, 0, none⟩), .slice A l.length c, .func (.func 52) #[] #[]] w fun e w' => e = .returned (.tuple #[]) ∧ Hp w0 w' (Rs.set i (rWriter w0.heap.size g (xs ++ encN (l.length : Int) ++ l.flatMap encPair) 0)) := by
  have HPn := Aside0.mk HP
  have HI := Aside0.mk hi
  have HLT := Aside0.mk (List.getElem?_eq_some_iff.1 hi).1
  have HR := Aside0.mk h1
  have HX0 := Aside0.mk hx
  have HL := Aside0.mk hl
  have HXS := Aside0.mk hxs
  have hll : (l.length : Int) ≤ 1000 := by omega
  clear HP hi h1 hx hl hxs
  have HP := HPn
  clear HPn
  go_enter Try.func51, Try.ntmps51
  go_wp2_with fail
  refine (c_wint HP.out i g xs 0 HI.out (l.length : Int) (by omega) (by omega) (by have := HXS.out; omega)).mono ?_; rintro e wb ⟨rfl, hpn⟩
  clear HP
  have HP := Aside0.mk hpn
  clear hpn
  go_wp2_with fail
  go_loopg [14] l.length (fun kq vq w' => ∃ (j : Nat) (x : Int), vq = .int .i64 x ∧ Aside0 (x = (j : Int)) ∧ Aside0 (kq + j = l.length) ∧ Aside0 (Hp w0 w' (Rs.set i (rWriter w0.heap.size g (xs ++ encN (l.length : Int) ++ (l.take j).flatMap encPair) 0))))
  case atStart => exact ⟨0, 0, rfl, ⟨rfl⟩, ⟨rfl⟩, by simpa using HP⟩
  clear HP
  obtain ⟨j, x, rfl, HX, HK, HP⟩ := hrel
  have hx := HX.out
  by_cases c1 : j < l.length
  · have d1 : decide (x < (l.length : Int)) = true := decide_eq_true (by omega)
    have ex : IntKind.i64.wrap (x + 1) = x + 1 := IntWalk.i64_in _ (by omega)
    have p0 : 0 ≤ x := by omega
    have q0 : x < (l.length : Int) := by omega
    obtain ⟨y, hy⟩ : ∃ p, l[j]? = some p := ⟨_, List.getElem?_eq_getElem c1⟩
    obtain ⟨Ab, Ao, rfl⟩ := C_addrK (by decide) HR.out (by omega)
    obtain ⟨cs, hcs, hra⟩ := range_K HR.out hy
    have hcs2 := k55_open hcs
    subst hcs2
    have hxt : x.toNat = j := by omega
    have HRA := Aside0.mk (show w0.rangeAt Ab (Ao + x.toNat * Kd.sz k55) (c55 y) from by rw [hxt]; exact hra)
    have HY := Aside0.mk hy
    have hi9 : (Try.prog.info? 55).map (·.size) = some (c55 y).length := by kernel_rfl
    have HXY := Aside0.mk (HX0.out y (List.mem_of_getElem? hy))
    have HLN := Aside0.mk (show (xs ++ encN (l.length : Int) ++ (l.take j).flatMap encPair).length ≤ 1000000000 from by
      have h1 := flat_len encPair 2100 (l.take j) fun z hz => encPair_len z (HX0.out z (List.mem_of_mem_take hz)).1 (HX0.out z (List.mem_of_mem_take hz)).2
      have h2 := HL.out
      have h3 := HXS.out
      have h4 := encN_len (l.length : Int)
      simp only [List.length_append, List.length_take] at h1 ⊢
      omega)
    have HI2 := Aside0.mk (show ∀ X : Res, (X :: Rs.set i (rWriter w0.heap.size g (xs ++ encN (l.length : Int) ++ (l.take j).flatMap encPair) 0))[i + 1]? = some (rWriter w0.heap.size g (xs ++ encN (l.length : Int) ++ (l.take j).flatMap encPair) 0) from fun X => set_get _ HLT.out)
    have hen : ∀ w, (callFunc 52 #[.pointer (some ⟨g, 0, none⟩), .agg (c55 y).toArray]).run Try.prog w = .ok (.enter 52 #[.pointer (some ⟨g, 0, none⟩), .agg (c55 y).toArray]) w := fun w => enters_fn (P := Try.prog) Try.func52 (by kernel_rfl) rfl _ w
    clear hx c1 hy hcs hra hxt
    go_wp2_with (first | ((with_reducible refine gate_dst (N := 17) rfl ?_); refine ev_elem rfl 55 (.tmp 16) rfl Ab (Ao + x.toNat * Kd.sz k55) rfl (c55 y) (fun j_ v_ hv_ => (HP.out.below.cell (World.block_lt_of_cell? w0 _ (HRA.out j_ v_ hv_))).trans (HRA.out j_ v_ hv_)) Try.underlying55 rfl hi9 ?_) | ((with_reducible refine gate_dst (N := 7) rfl ?_); refine ev_alloc rfl 55 rfl (.agg (c55 z55).toArray) (by kernel_rfl) ?_; intro gx wc hge hg hb; have HPn := Aside0.mk (HP.out.newB hb hg hge); clear HP; have HP := HPn; clear HPn; clear hge hg hb) | ((with_reducible refine gate_store (t := 55) (p := 7) rfl ?_); refine ev_store rfl 55 (.tmp 7) (.tmp 17) rfl rfl _ rfl (cells := (c55 y).toArray) rfl (HP.out.blk 0 rfl) (by rw [List.size_toArray]; exact hi9) rfl (one_c55 y) ?_; intro wd hg hgr; have HPn := Aside0.mk (HP.out.setB 0 rfl hgr hg); clear HP; have HP := HPn; clear HPn; clear hg hgr) | ((with_reducible refine gate_dst (N := 20) rfl ?_); refine ev_load rfl 55 (.tmp 7) rfl gx rfl (HP.out.blk 0 rfl) Try.underlying55 rfl (by rw [List.size_toArray]; exact hi9) ?_))
    refine (c_b1 HP.out (i + 1) g _ (HI2.out _) y HXY.out.1 HXY.out.2 HLN.out).mono ?_; rintro e we ⟨rfl, hpn⟩
    clear HP
    have HP := Aside0.mk hpn
    clear hpn
    go_wp2_with fail
    have HPn := Aside0.mk (HP.out.drop1)
    rw [List.set_set] at HPn
    clear HP
    go_roundg (gk - 1)
    case measure => have := HK.out; have := (List.getElem?_eq_some_iff.1 HY.out).1; omega
    case rel => exact ⟨j + 1, x + 1, rfl, ⟨by have := HX.out; omega⟩, ⟨by have := HK.out; have := (List.getElem?_eq_some_iff.1 HY.out).1; omega⟩, ⟨by rw [take_snocD l j _ HY.out, List.flatMap_append, List.flatMap_singleton, ← List.append_assoc]; exact HPn.out⟩⟩
  · have d1 : decide (x < (l.length : Int)) = false := decide_eq_false (by omega)
    have HE := Aside0.mk (show l.take j = l by rw [List.take_of_length_le (by omega)])
    rw [HE.out] at HP
    clear hx c1
    go_wp2_with fail
    refine bodyPost_end (v := .tuple #[]) (by simp [results, Try.results51, go_sem]) rfl ?_
    exact ⟨rfl, HP.out⟩
set_option maxHeartbeats 8000000 in
set_option maxRecDepth 100000 in
theorem c_b2 {w0 w : World} {Rs : List Res} (HP : Hp w0 w Rs) (i g : Nat) (xs : List Int) (hi : Rs[i]? = some (rWriter w0.heap.size g xs 0)) (x : S66) (h0 : x.f0.size ≤ 1000) (h1 : 0 ≤ x.f2 ∧ x.f2 ≤ 65536) (hb : ∀ z ∈ by63 x.f1, 0 ≤ z ∧ z < 256) (hx : xs.length ≤ 1000000000) :
    Calls Try.prog 56 #[.pointer (some ⟨g, 0, none⟩), .agg (c66 x).toArray] w fun e w' => e = .returned (.tuple #[]) ∧ Hp w0 w' (Rs.set i (rWriter w0.heap.size g (xs ++ encLink x) 0)) := by
  have HPn := Aside0.mk HP
  have HI := Aside0.mk (show ∀ X : Res, (X :: Rs)[i + 1]? = some (rWriter w0.heap.size g xs 0) from fun X => hi)
  have HLT := Aside0.mk (List.getElem?_eq_some_iff.1 hi).1
  have H0 := Aside0.mk h0
  have H1 := Aside0.mk h1
  have HX := Aside0.mk hx
  have HB := Aside0.mk hb
  clear hb
  clear HP hi h0 h1 hx
  have HP := HPn
  clear HPn
  go_enter Try.func56, Try.ntmps56
  go_wp2_with (first | ((with_reducible refine gate_dst (N := 3) rfl ?_); refine ev_box rfl 66 (.tmp 1) rfl ((c66 x).toArray) rfl ?_; intro gx wa hge hg hb_; have HPn := Aside0.mk (HP.out.newB hb_ hg hge); clear HP; have HP := HPn; clear HPn; clear hge hg hb_; have hca : wa.cell? ⟨gx, 0, none⟩ = some (.string x.f0) := cell_f (HP.out.blk 0 rfl)))
  refine (c_wtext HP.out (i + 1) g xs 0 (HI.out _) x.f0 (by have := H0.out; omega) (by have := HX.out; omega)).mono ?_; rintro e wb ⟨rfl, hpn⟩
  clear HP hca
  have HP := Aside0.mk hpn
  clear hpn
  simp only [List.set_cons_succ] at HP
  (try rw [List.set_set] at HP)
  have HI := Aside0.mk (show ∀ X : Res, (X :: Rs.set i (rWriter w0.heap.size g (xs ++ encN (x.f0.size : Int) ++ bytesOf x.f0) 0))[i + 1]? = some (rWriter w0.heap.size g (xs ++ encN (x.f0.size : Int) ++ bytesOf x.f0) 0) from fun X => set_get _ HLT.out)
  have hi63 : (Try.prog.info? 63).map (·.size) = some (by8 (by63 x.f1)).length := by kernel_rfl
  have hcn : wb.cell? ⟨gx, 33, none⟩ = some (.int .i64 x.f2) := cell_n (HP.out.blk 0 rfl)
  go_wp2_with (first | ((with_reducible refine gate_dst (N := 10) rfl ?_); refine ev_elem rfl 63 (.tmp 9) rfl gx 1 rfl (by8 (by63 x.f1)) (range_id (HP.out.blk 0 rfl)) Try.underlying63 rfl hi63 ?_))
  refine (c_wid HP.out (i + 1) g (xs ++ encN (x.f0.size : Int) ++ bytesOf x.f0) 0 (HI.out _) (by63 x.f1) rfl HB.out (by have h1 := HX.out; have h2 := H0.out; have h3 := encN_len (x.f0.size : Int); simp only [List.length_append, bytesOf_length]; omega)).mono ?_; rintro e wc ⟨rfl, hpn⟩
  clear HP hcn
  have HP := Aside0.mk hpn
  clear hpn
  simp only [List.set_cons_succ] at HP
  (try rw [List.set_set] at HP)
  have HI := Aside0.mk (show ∀ X : Res, (X :: Rs.set i (rWriter w0.heap.size g (xs ++ encN (x.f0.size : Int) ++ bytesOf x.f0 ++ by63 x.f1) 0))[i + 1]? = some (rWriter w0.heap.size g (xs ++ encN (x.f0.size : Int) ++ bytesOf x.f0 ++ by63 x.f1) 0) from fun X => set_get _ HLT.out)
  have hca : wc.cell? ⟨gx, 33, none⟩ = some (.int .i64 x.f2) := cell_n (HP.out.blk 0 rfl)
  go_wp2_with fail
  refine (c_wint HP.out (i + 1) g (xs ++ encN (x.f0.size : Int) ++ bytesOf x.f0 ++ by63 x.f1) 0 (HI.out _) x.f2 H1.out.1 (by have := H1.out.2; omega) (by have h1 := HX.out; have h2 := H0.out; have h3 := encN_len (x.f0.size : Int); have h4 : (by63 x.f1).length = 32 := rfl; simp only [List.length_append, bytesOf_length]; omega)).mono ?_; rintro e wd ⟨rfl, hpn⟩
  clear HP hca
  have HP := Aside0.mk hpn
  clear hpn
  simp only [List.set_cons_succ] at HP
  (try rw [List.set_set] at HP)
  have HI := Aside0.mk (show ∀ X : Res, (X :: Rs.set i (rWriter w0.heap.size g (xs ++ encN (x.f0.size : Int) ++ bytesOf x.f0 ++ by63 x.f1 ++ encN x.f2) 0))[i + 1]? = some (rWriter w0.heap.size g (xs ++ encN (x.f0.size : Int) ++ bytesOf x.f0 ++ by63 x.f1 ++ encN x.f2) 0) from fun X => set_get _ HLT.out)
  go_wp2_with fail
  refine bodyPost_end (v := .tuple #[]) (by simp [results, Try.results56, go_sem]) rfl ?_
  exact ⟨rfl, by
    have h := Hp.drop1 HP.out
    (try simp only [List.set_set] at h)
    rw [show xs ++ encLink x = xs ++ encN (x.f0.size : Int) ++ bytesOf x.f0 ++ by63 x.f1 ++ encN x.f2 from by simp only [encLink, List.append_assoc]]
    exact h⟩
set_option maxHeartbeats 8000000 in
set_option maxRecDepth 100000 in
theorem c_put2 {w0 w : World} {Rs : List Res} (HP : Hp w0 w Rs) (i g : Nat) (xs : List Int) (hi : Rs[i]? = some (rWriter w0.heap.size g xs 0)) (A : Option Addr) (c : Nat) (l : List S66) (hl : l.length ≤ 1000) (h1 : k66.C w0 A l.length l) (hx : ∀ x ∈ l, x.f0.size ≤ 1000 ∧ (0 ≤ x.f2 ∧ x.f2 ≤ 65536) ∧ ∀ z ∈ by63 x.f1, 0 ≤ z ∧ z < 256) (hxs : xs.length ≤ 1000) :
    Calls Try.prog 55 #[.pointer (some ⟨g, 0, none⟩), .slice A l.length c, .func (.func 56) #[] #[]] w fun e w' => e = .returned (.tuple #[]) ∧ Hp w0 w' (Rs.set i (rWriter w0.heap.size g (xs ++ encN (l.length : Int) ++ l.flatMap encLink) 0)) := by
  have HPn := Aside0.mk HP
  have HI := Aside0.mk hi
  have HLT := Aside0.mk (List.getElem?_eq_some_iff.1 hi).1
  have HR := Aside0.mk h1
  have HX0 := Aside0.mk hx
  have HL := Aside0.mk hl
  have HXS := Aside0.mk hxs
  have hll : (l.length : Int) ≤ 1000 := by omega
  clear HP hi h1 hx hl hxs
  have HP := HPn
  clear HPn
  go_enter Try.func55, Try.ntmps55
  go_wp2_with fail
  refine (c_wint HP.out i g xs 0 HI.out (l.length : Int) (by omega) (by omega) (by have := HXS.out; omega)).mono ?_; rintro e wb ⟨rfl, hpn⟩
  clear HP
  have HP := Aside0.mk hpn
  clear hpn
  go_wp2_with fail
  go_loopg [14] l.length (fun kq vq w' => ∃ (j : Nat) (x : Int), vq = .int .i64 x ∧ Aside0 (x = (j : Int)) ∧ Aside0 (kq + j = l.length) ∧ Aside0 (Hp w0 w' (Rs.set i (rWriter w0.heap.size g (xs ++ encN (l.length : Int) ++ (l.take j).flatMap encLink) 0))))
  case atStart => exact ⟨0, 0, rfl, ⟨rfl⟩, ⟨rfl⟩, by simpa using HP⟩
  clear HP
  obtain ⟨j, x, rfl, HX, HK, HP⟩ := hrel
  have hx := HX.out
  by_cases c1 : j < l.length
  · have d1 : decide (x < (l.length : Int)) = true := decide_eq_true (by omega)
    have ex : IntKind.i64.wrap (x + 1) = x + 1 := IntWalk.i64_in _ (by omega)
    have p0 : 0 ≤ x := by omega
    have q0 : x < (l.length : Int) := by omega
    obtain ⟨y, hy⟩ : ∃ p, l[j]? = some p := ⟨_, List.getElem?_eq_getElem c1⟩
    obtain ⟨Ab, Ao, rfl⟩ := C_addrK (by decide) HR.out (by omega)
    obtain ⟨cs, hcs, hra⟩ := range_K HR.out hy
    have hcs2 := k66_open hcs
    subst hcs2
    have hxt : x.toNat = j := by omega
    have HRA := Aside0.mk (show w0.rangeAt Ab (Ao + x.toNat * Kd.sz k66) (c66 y) from by rw [hxt]; exact hra)
    have HY := Aside0.mk hy
    have hi9 : (Try.prog.info? 66).map (·.size) = some (c66 y).length := by kernel_rfl
    have HXY := Aside0.mk (HX0.out y (List.mem_of_getElem? hy))
    have HLN := Aside0.mk (show (xs ++ encN (l.length : Int) ++ (l.take j).flatMap encLink).length ≤ 1000000000 from by
      have h1 := flat_len encLink 2100 (l.take j) fun z hz => encLink_len z (HX0.out z (List.mem_of_mem_take hz)).1
      have h2 := HL.out
      have h3 := HXS.out
      have h4 := encN_len (l.length : Int)
      simp only [List.length_append, List.length_take] at h1 ⊢
      omega)
    have HI2 := Aside0.mk (show ∀ X : Res, (X :: Rs.set i (rWriter w0.heap.size g (xs ++ encN (l.length : Int) ++ (l.take j).flatMap encLink) 0))[i + 1]? = some (rWriter w0.heap.size g (xs ++ encN (l.length : Int) ++ (l.take j).flatMap encLink) 0) from fun X => set_get _ HLT.out)
    have hen : ∀ w, (callFunc 56 #[.pointer (some ⟨g, 0, none⟩), .agg (c66 y).toArray]).run Try.prog w = .ok (.enter 56 #[.pointer (some ⟨g, 0, none⟩), .agg (c66 y).toArray]) w := fun w => enters_fn (P := Try.prog) Try.func56 (by kernel_rfl) rfl _ w
    clear hx c1 hy hcs hra hxt
    go_wp2_with (first | ((with_reducible refine gate_dst (N := 17) rfl ?_); refine ev_elem rfl 66 (.tmp 16) rfl Ab (Ao + x.toNat * Kd.sz k66) rfl (c66 y) (fun j_ v_ hv_ => (HP.out.below.cell (World.block_lt_of_cell? w0 _ (HRA.out j_ v_ hv_))).trans (HRA.out j_ v_ hv_)) Try.underlying66 rfl hi9 ?_) | ((with_reducible refine gate_dst (N := 7) rfl ?_); refine ev_alloc rfl 66 rfl (.agg (c66 z66).toArray) (by kernel_rfl) ?_; intro gx wc hge hg hb; have HPn := Aside0.mk (HP.out.newB hb hg hge); clear HP; have HP := HPn; clear HPn; clear hge hg hb) | ((with_reducible refine gate_store (t := 66) (p := 7) rfl ?_); refine ev_store rfl 66 (.tmp 7) (.tmp 17) rfl rfl _ rfl (cells := (c66 y).toArray) rfl (HP.out.blk 0 rfl) (by rw [List.size_toArray]; exact hi9) rfl (one_c66 y) ?_; intro wd hg hgr; have HPn := Aside0.mk (HP.out.setB 0 rfl hgr hg); clear HP; have HP := HPn; clear HPn; clear hg hgr) | ((with_reducible refine gate_dst (N := 20) rfl ?_); refine ev_load rfl 66 (.tmp 7) rfl gx rfl (HP.out.blk 0 rfl) Try.underlying66 rfl (by rw [List.size_toArray]; exact hi9) ?_))
    refine (c_b2 HP.out (i + 1) g _ (HI2.out _) y HXY.out.1 HXY.out.2.1 HXY.out.2.2 HLN.out).mono ?_; rintro e we ⟨rfl, hpn⟩
    clear HP
    have HP := Aside0.mk hpn
    clear hpn
    go_wp2_with fail
    have HPn := Aside0.mk (HP.out.drop1)
    rw [List.set_set] at HPn
    clear HP
    go_roundg (gk - 1)
    case measure => have := HK.out; have := (List.getElem?_eq_some_iff.1 HY.out).1; omega
    case rel => exact ⟨j + 1, x + 1, rfl, ⟨by have := HX.out; omega⟩, ⟨by have := HK.out; have := (List.getElem?_eq_some_iff.1 HY.out).1; omega⟩, ⟨by rw [take_snocD l j _ HY.out, List.flatMap_append, List.flatMap_singleton, ← List.append_assoc]; exact HPn.out⟩⟩
  · have d1 : decide (x < (l.length : Int)) = false := decide_eq_false (by omega)
    have HE := Aside0.mk (show l.take j = l by rw [List.take_of_length_le (by omega)])
    rw [HE.out] at HP
    clear hx c1
    go_wp2_with fail
    refine bodyPost_end (v := .tuple #[]) (by simp [results, Try.results55, go_sem]) rfl ?_
    exact ⟨rfl, HP.out⟩
end Go.Proofs.Ytlgnfbgjdkbfoaa.Pg
namespace Go.Proofs.Ytlgnfbgjdkbfoaa.Pg
open Go.RowKit Go.Proofs.Ytlgnfbgjdkbfoaa.XH Go.Proofs.Ytlgnfbgjdkbfoaa.Wd Go.Proofs.YtlgnfbgjdkbfoaaW.PrintWords Go.Proofs.YtlgnfbgjdkbfoaaW.PrintLast Go.Proofs.YtlgnfbgjdkbfoaaW.PrintMore Go.Proofs.YtlgnfbgjdkbfoaaXe Go.Proofs.YtlgnfbgjdkbfoaaXs
set_option linter.unusedVariables false
set_option linter.unusedSimpArgs false
attribute [local go_sem ↓] Go.wp_at_zero Go.wp_at_succ
/-- a page's bytes -/
def pageB (lv : Int) (l1 : List S55) (l2 : List S66) : List Int := if lv = 0 then encN lv ++ encN (l1.length : Int) ++ l1.flatMap encPair else encN lv ++ encN (l2.length : Int) ++ l2.flatMap encLink
theorem keyOk_size {k : ByteArray} (h : keyOk k = true) : k.size ≤ 32 := by
  simp only [keyOk, Bool.and_eq_true, decide_eq_true_eq] at h
  exact h.2
theorem pairs_of {l : List S55} (h : checkS l = 0) : pairsTo l l.length = true := by
  unfold checkS at h
  split at h
  · omega
  · split at h
    · assumption
    · omega
theorem pair_ok {l : List S55} (h : checkS l = 0) : ∀ x ∈ l, keyOk x.f0 = true ∧ x.f1.size ≤ 64 := fun x hx => by
  obtain ⟨j, hj⟩ := List.getElem?_of_mem hx
  have h1 := List.all_eq_true.1 (pairs_of h) j (List.mem_range.2 (List.getElem?_eq_some_iff.1 hj).1)
  rw [show l.getD j z55 = x from by rw [List.getD_eq_getElem?_getD, hj]; rfl] at h1
  simp only [pairAt, Bool.and_eq_true, decide_eq_true_eq] at h1
  exact ⟨h1.1.1, h1.1.2⟩
theorem link_ok {l : List S66} (h : linksS l = true) : ∀ x ∈ l, keyOk x.f0 = true ∧ 1 ≤ x.f2 ∧ x.f2 ≤ 65536 := fun x hx => by
  obtain ⟨j, hj⟩ := List.getElem?_of_mem hx
  simp only [linksS, Bool.and_eq_true] at h
  have h1 := List.all_eq_true.1 h.1 j (List.mem_range.2 (List.getElem?_eq_some_iff.1 hj).1)
  rw [show l.getD j z66 = x from by rw [List.getD_eq_getElem?_getD, hj]; rfl] at h1
  simp only [linkAt, Bool.and_eq_true, decide_eq_true_eq] at h1
  exact ⟨h1.1.1.1, h1.1.2, h1.2⟩
/-- what a page that may be is -/
theorem page_ok {lv : Int} {l1 : List S55} {l2 : List S66} (h : pageS lv l1 l2 = 0) : 0 ≤ lv ∧ lv ≤ 20 ∧ l1.length + l2.length ≤ 16 ∧ ((lv = 0 ∧ l2 = [] ∧ checkS l1 = 0) ∨ (lv ≠ 0 ∧ l1 = [] ∧ linksS l2 = true)) := by
  unfold pageS at h
  by_cases h1 : lvOk lv = false
  · rw [if_pos h1] at h; omega
  · rw [if_neg h1] at h
    have h1b : lvOk lv = true := by simpa using h1
    simp only [lvOk, Bool.and_eq_true, decide_eq_true_eq] at h1b
    by_cases h2 : l1.length + l2.length > 16
    · rw [if_pos h2] at h; omega
    · rw [if_neg h2] at h
      by_cases h3 : lv = 0
      · rw [if_pos h3] at h
        by_cases h4 : 0 < l2.length
        · rw [if_pos h4] at h; omega
        · rw [if_neg h4] at h
          by_cases h5 : checkS l1 = 0
          · exact ⟨h1b.1, h1b.2, by omega, .inl ⟨h3, List.length_eq_zero_iff.1 (by omega), h5⟩⟩
          · rw [if_neg h5] at h; omega
      · rw [if_neg h3] at h
        by_cases h4 : 0 < l1.length
        · rw [if_pos h4] at h; omega
        · rw [if_neg h4] at h
          by_cases h5 : linksS l2 = true
          · exact ⟨h1b.1, h1b.2, by omega, .inr ⟨h3, List.length_eq_zero_iff.1 (by omega), h5⟩⟩
          · rw [if_neg h5] at h; omega
def outB (lv : Int) (l1 : List S55) (l2 : List S66) : List Int := if pageS lv l1 l2 = 0 then pageB lv l1 l2 else []
theorem outB_ok {lv : Int} {l1 : List S55} {l2 : List S66} (h : pageS lv l1 l2 = 0) : outB lv l1 l2 = pageB lv l1 l2 := if_pos h
theorem outB_no {lv : Int} {l1 : List S55} {l2 : List S66} (h : ¬ pageS lv l1 l2 = 0) : outB lv l1 l2 = [] := if_neg h
set_option maxHeartbeats 8000000 in
set_option maxRecDepth 100000 in
theorem c_bytes (lv : Int) (A1 : Option Addr) (c1 : Nat) (l1 : List S55) (A2 : Option Addr) (c2 : Nat) (l2 : List S66) (w : World) (h1 : k55.C w A1 l1.length l1) (h2 : k66.C w A2 l2.length l2) (hc1 : l1.length ≤ c1) (hc2 : l2.length ≤ c2) (hl1 : l1.length ≤ 1000000) (hl2 : l2.length ≤ 1000000) (hby : ∀ x ∈ l2, ∀ z ∈ by63 x.f1, 0 ≤ z ∧ z < 256) :
    Calls Try.prog 17 #[.agg #[.int .i64 lv, .slice A1 l1.length c1, .slice A2 l2.length c2]] w fun e w' => ∃ v, e = .returned (.tuple #[v, .int .i64 (pageS lv l1 l2)]) ∧ (Kd.int .u8).R 5 w' w.heap.size (fun _ => True) v (outB lv l1 l2) ∧ Below w.heap.size w w' := by
  have HCK := Aside0.mk (fun wa (hb : Below w.heap.size w wa) => c_pcheck lv A1 c1 l1 A2 c2 l2 wa (Kd.C_below h1 hb) (Kd.C_below h2 hb) hc1 hc2 hl1 hl2)
  have H1 := Aside0.mk h1
  have H2 := Aside0.mk h2
  have HB := Aside0.mk hby
  have HP := Aside0.mk (Hp.start w)
  clear h1 h2 hl1 hl2 hc1 hc2 hby
  go_enter Try.func17, Try.ntmps17
  go_wp2_with (first | ((with_reducible refine gate_dst (N := 1) rfl ?_); refine ev_box rfl 27 (.tmp 0) rfl (#[.int .i64 lv, .slice A1 l1.length c1, .slice A2 l2.length c2]) rfl ?_; intro g1 wa hge hg hb; have HPn := Aside0.mk (HP.out.newB hb hg hge); clear HP; have HP := HPn; clear HPn; clear hge hg hb) | ((with_reducible refine gate_dst (N := 6) rfl ?_); refine ev_load rfl 27 (.tmp 1) rfl g1 rfl (HP.out.blk 0 rfl) Try.underlying27 rfl (by kernel_rfl) ?_))
  refine (HCK.out wa HP.out.below).mono ?_; rintro e wb ⟨rfl, hb⟩
  have HPn := Aside0.mk (HP.out.call hb)
  clear HP hb HCK
  have HP := HPn
  clear HPn
  obtain ⟨q, hq⟩ : ∃ q, pageS lv l1 l2 = q := ⟨_, rfl⟩
  rw [hq]
  have HQ := Aside0.mk hq
  clear hq
  by_cases h0 : q = 0
  · subst h0
    have HK := Aside0.mk (page_ok HQ.out)
    have hc0 : wb.cell? ⟨g1, 0, none⟩ = some (.int .i64 lv) := blk_cell (HP.out.blk 0 rfl) 0
    go_wp2_with fail
    refine (c_wnew HP.out).mono ?_; rintro e wc ⟨g, rfl, hpn⟩
    clear HP hc0
    have HP := Aside0.mk hpn
    clear hpn
    have hc0 : wc.cell? ⟨g1, 0, none⟩ = some (.int .i64 lv) := blk_cell (HP.out.blk 1 rfl) 0
    go_wp2_with fail
    refine (c_wint HP.out 0 g [] 0 rfl lv HK.out.1 (by have := HK.out.2.1; omega) (by decide)).mono ?_; rintro e wd ⟨rfl, hpn⟩
    clear HP hc0
    have HP := Aside0.mk (show Hp w wd [rWriter w.heap.size g (encN lv) 0, .blk g1 (.cells #[.int .i64 lv, .slice A1 l1.length c1, .slice A2 l2.length c2] 27 (0, 0))] from hpn)
    clear hpn
    have hc0 : wd.cell? ⟨g1, 0, none⟩ = some (.int .i64 lv) := blk_cell (HP.out.blk 1 rfl) 0
    have hc1 : wd.cell? ⟨g1, 1, none⟩ = some (.slice A1 l1.length c1) := blk_cell (HP.out.blk 1 rfl) 1
    have hc2 : wd.cell? ⟨g1, 2, none⟩ = some (.slice A2 l2.length c2) := blk_cell (HP.out.blk 1 rfl) 2
    have hLE : (encN lv).length ≤ 1000 := by have := encN_len lv; omega
    rcases HK.out.2.2.2 with ⟨hlv, h2n, hck⟩ | ⟨hlv, h1n, hls⟩
    · have d0 : decide (lv = 0) = true := decide_eq_true hlv
      have d0b : (lv == 0) = true := by simpa using hlv
      have HLB := Aside0.mk (show pageB lv l1 l2 = encN lv ++ encN (l1.length : Int) ++ l1.flatMap encPair from by unfold pageB; rw [if_pos hlv])
      have HCP := Aside0.mk (c_put1 HP.out 0 g (encN lv) rfl A1 c1 l1 (by have := HK.out.2.2.1; omega) H1.out (fun x hx => by have h := pair_ok hck x hx; have h3 := keyOk_size h.1; exact ⟨by omega, by omega⟩) hLE)
      have HLL := Aside0.mk (show (encN lv ++ encN (l1.length : Int) ++ l1.flatMap encPair).length ≤ 100000000000 from by
        have h1 := flat_len encPair 2100 l1 fun x hx => by have h := pair_ok hck x hx; have h3 := keyOk_size h.1; exact encPair_len x (by omega) (by omega)
        have h2 := HK.out.2.2.1
        have h4 := encN_len (l1.length : Int)
        simp only [List.length_append]
        omega)
      clear hlv h2n hck
      go_wp2_with fail
      refine HCP.out.mono ?_; rintro e we ⟨rfl, hpn⟩
      clear HP HCP hc0 hc1 hc2
      have HP := Aside0.mk hpn
      clear hpn
      go_wp2_with fail
      refine (c_wout HP.out 0 g _ 0 rfl rfl HLL.out).mono ?_; rintro e wf ⟨v, rfl, hpn⟩
      clear HP
      have HP := Aside0.mk hpn
      clear hpn
      go_wp2_with fail
      refine bodyPost_ret (results_two2 rfl _ _ rfl rfl) rfl ?_
      exact ⟨v, by (try rw [HQ.out]); rfl, by rw [outB_ok HQ.out, HLB.out]; exact HP.out.row 0 rfl, HP.out.below⟩
    · have d0 : decide (lv = 0) = false := decide_eq_false hlv
      have d0b : (lv == 0) = false := by simpa using hlv
      have HLB := Aside0.mk (show pageB lv l1 l2 = encN lv ++ encN (l2.length : Int) ++ l2.flatMap encLink from by unfold pageB; rw [if_neg hlv])
      have HCP := Aside0.mk (c_put2 HP.out 0 g (encN lv) rfl A2 c2 l2 (by have := HK.out.2.2.1; omega) H2.out (fun x hx => by have h := link_ok hls x hx; have h3 := keyOk_size h.1; exact ⟨by omega, by omega, HB.out x hx⟩) hLE)
      have HLL := Aside0.mk (show (encN lv ++ encN (l2.length : Int) ++ l2.flatMap encLink).length ≤ 100000000000 from by
        have h1 := flat_len encLink 2100 l2 fun x hx => by have h := link_ok hls x hx; have h3 := keyOk_size h.1; exact encLink_len x (by omega)
        have h2 := HK.out.2.2.1
        have h4 := encN_len (l2.length : Int)
        simp only [List.length_append]
        omega)
      clear hlv h1n hls
      go_wp2_with fail
      refine HCP.out.mono ?_; rintro e we ⟨rfl, hpn⟩
      clear HP HCP hc0 hc1 hc2
      have HP := Aside0.mk hpn
      clear hpn
      go_wp2_with fail
      refine (c_wout HP.out 0 g _ 0 rfl rfl HLL.out).mono ?_; rintro e wf ⟨v, rfl, hpn⟩
      clear HP
      have HP := Aside0.mk hpn
      clear hpn
      go_wp2_with fail
      refine bodyPost_ret (results_two2 rfl _ _ rfl rfl) rfl ?_
      exact ⟨v, by (try rw [HQ.out]); rfl, by rw [outB_ok HQ.out, HLB.out]; exact HP.out.row 0 rfl, HP.out.below⟩
  · have d1 : (q == 0) = false := by simpa using h0
    have d2 : (q != 0) = true := by simpa using h0
    have d3 : decide (q = 0) = false := decide_eq_false h0
    go_wp2_with fail
    refine bodyPost_ret (results_two2 rfl _ _ rfl rfl) rfl ?_
    exact ⟨.slice none 0 0, by (try rw [HQ.out]); rfl, by rw [outB_no (by rw [HQ.out]; exact h0)]; exact Kd.R_nil _ _ _ _ _, HP.out.below⟩
end Go.Proofs.Ytlgnfbgjdkbfoaa.Pg
namespace Go.Proofs.Ytlgnfbgjdkbfoaa.Pg
open Go.RowKit Go.Proofs.Ytlgnfbgjdkbfoaa.XH Go.Proofs.Ytlgnfbgjdkbfoaa.Wd Go.Proofs.YtlgnfbgjdkbfoaaW.PrintWords Go.Proofs.YtlgnfbgjdkbfoaaW.PrintLast Go.Proofs.YtlgnfbgjdkbfoaaW.PrintMore Go.Proofs.YtlgnfbgjdkbfoaaXe Go.Proofs.YtlgnfbgjdkbfoaaXs
set_option linter.unusedVariables false
set_option linter.unusedSimpArgs false
attribute [local go_sem ↓] Go.wp_at_zero Go.wp_at_succ
/-- an ID of 32 bytes -/
def mk63 (l : List Int) : S63 := ⟨rd l 0, rd l 1, rd l 2, rd l 3, rd l 4, rd l 5, rd l 6, rd l 7, rd l 8, rd l 9, rd l 10, rd l 11, rd l 12, rd l 13, rd l 14, rd l 15, rd l 16, rd l 17, rd l 18, rd l 19, rd l 20, rd l 21, rd l 22, rd l 23, rd l 24, rd l 25, rd l 26, rd l 27, rd l 28, rd l 29, rd l 30, rd l 31⟩
theorem by63_mk (l : List Int) (h : l.length = 32) : by63 (mk63 l) = l := by
  have h1 : by63 (mk63 l) = (List.range 32).map (fun i : Nat => rd l (i : Int)) := rfl
  rw [h1]
  refine List.ext_getElem (by simp [h]) fun i h2 h3 => ?_
  simp [rd, h3]
theorem rId_len (b : List Int) (s : RS) : (rId b s).1.length = 32 := by
  unfold rId
  split
  · rfl
  · split
    · exact (idP_ok (by assumption)).1
    · rfl
theorem rNum_low (b : List Int) (s : RS) {low high above : Int} (h0 : low ≤ 0) (h1 : 0 ≤ high) : low ≤ (rNum b s low high above).1 ∧ (rNum b s low high above).1 ≤ high := by
  unfold rNum
  split
  · exact ⟨h0, h1⟩
  · split
    · exact numP_low (by assumption)
    · exact ⟨h0, h1⟩
/-- the items of a page's bytes -/
def readL (b : List Int) (lv : Int) : Nat → RS → List S55 → List S66 → RS × List S55 × List S66
  | 0, s, ps, ls => (s, ps, ls)
  | k + 1, s, ps, ls => if s.err = 0 then (if lv = 0 then readL b lv k (rTxt b (rTxt b s 32).2 64).2 (ps ++ [⟨strOfNums (rTxt b s 32).1, strOfNums (rTxt b (rTxt b s 32).2 64).1⟩]) ls
      else readL b lv k (rNum b (rId b (rTxt b s 32).2).2 1 65536 5).2 ps (ls ++ [⟨strOfNums (rTxt b s 32).1, mk63 (rId b (rTxt b s 32).2).1, (rNum b (rId b (rTxt b s 32).2).2 1 65536 5).1⟩])) else (s, ps, ls)
def hd1 (b : List Int) : Int × RS := rNum b rs0 0 20 5
def hd2 (b : List Int) : Int × RS := rNum b (hd1 b).2 0 16 3
def items (b : List Int) : RS × List S55 × List S66 := readL b (hd1 b).1 (hd2 b).1.toNat (hd2 b).2 [] []
/-- the page of any bytes, and the fault -/
def readP (b : List Int) : (Int × List S55 × List S66) × (Int × Int) :=
  if (rEnd b (items b).1).1 ≠ 0 then ((0, [], []), rEnd b (items b).1) else if pageS (hd1 b).1 (items b).2.1 (items b).2.2 ≠ 0 then ((0, [], []), (2, 0)) else (((hd1 b).1, (items b).2.1, (items b).2.2), (0, 0))
theorem results_cells {P : Program} {fn : Func} {p p2 : Tmp} {ty ty2 : TypeId} (h : fn.results = #[.cell p ty, .cell p2 ty2]) (tmps : Array Value) (w : World) {g g2 : Nat} {t t2 : TypeId} {cs cs2 : Array Value} {fr fr2 : Nat × Nat} {d d2 : TypeDesc}
    (hp : tmps.getD p undef = .pointer (some ⟨g, 0, Option.none⟩)) (hg : w.heap[g]? = some (.cells cs t fr)) (hu : P.underlying ty = some d) (hd : (match d with | .struct _ | .array _ _ => true | _ => false) = true) (hi : (P.info? ty).map (·.size) = some cs.size)
    (hp2 : tmps.getD p2 undef = .pointer (some ⟨g2, 0, Option.none⟩)) (hg2 : w.heap[g2]? = some (.cells cs2 t2 fr2)) (hu2 : P.underlying ty2 = some d2) (hd2 : (match d2 with | .struct _ | .array _ _ => true | _ => false) = true) (hi2 : (P.info? ty2).map (·.size) = some cs2.size) : (results fn tmps).run P w = .ok (.tuple #[.agg cs, .agg cs2]) w := by
  have hp' : tmps[p]?.getD undef = .pointer (some ⟨g, 0, Option.none⟩) := by simpa using hp
  have hp2' : tmps[p2]?.getD undef = .pointer (some ⟨g2, 0, Option.none⟩) := by simpa using hp2
  simp [results, h, hp', hp2', asAddr, run_loadVar_row w g t ty cs fr d hg hu hd hi, run_loadVar_row w g2 t2 ty2 cs2 fr2 d2 hg2 hu2 hd2 hi2]
theorem plain_55 : Plain k55 := fun _ _ _ _ h => by
  obtain rfl := k55_open h
  exact k55_mkM _ _ _ _
theorem plain_66 : Plain k66 := fun _ _ _ _ h => by
  obtain rfl := k66_open h
  exact k66_mkM _ _ _ _
theorem run_s55 (x : S55) (w : World) : (Instr.buildSlice 24 1 #[(0, .agg (c55 x).toArray)]).run Try.prog w = .ok (.slice (some ⟨w.heap.size, 0, none⟩) 1 1) (w.alloc (.cells (c55 x).toArray 55)) :=
  run_buildSlice1 Try.underlying24 (z := .agg (c55 z55).toArray) (by rw [c55_len]; kernel_rfl) (by rw [c55_len]; omega) (by rw [c55_len]; omega) w
theorem run_s66 (x : S66) (w : World) : (Instr.buildSlice 25 1 #[(0, .agg (c66 x).toArray)]).run Try.prog w = .ok (.slice (some ⟨w.heap.size, 0, none⟩) 1 1) (w.alloc (.cells (c66 x).toArray 66)) :=
  run_buildSlice1 Try.underlying25 (z := .agg (c66 z66).toArray) (by rw [c66_len]; kernel_rfl) (by rw [c66_len]; omega) (by rw [c66_len]; omega) w
theorem op_s55 (y : S55) {o : Oper} {a : Act} {w : World} {x : Operand} (ho : o.op = .buildSlice 24 1 #[(0, x)] ∧ a.eval x = .agg (c55 y).toArray) : (execOp a.eval o).run Try.prog w = .ok (.value (.slice (some ⟨w.heap.size, 0, none⟩) 1 1)) (w.alloc (.cells (c55 y).toArray 55)) := by
  unfold execOp
  simp only [ho.1]
  simp [ho.2, run_s55 y w, Result.andThen]
theorem op_s66 (y : S66) {o : Oper} {a : Act} {w : World} {x : Operand} (ho : o.op = .buildSlice 25 1 #[(0, x)] ∧ a.eval x = .agg (c66 y).toArray) : (execOp a.eval o).run Try.prog w = .ok (.value (.slice (some ⟨w.heap.size, 0, none⟩) 1 1)) (w.alloc (.cells (c66 y).toArray 66)) := by
  unfold execOp
  simp only [ho.1]
  simp [ho.2, run_s66 y w, Result.andThen]
theorem info55 : (Try.prog.info? 55).map (fun i => (i.zero, i.size, i.bytes)) = some (some (.agg (c55 z55).toArray), 2, 32) := by kernel_rfl
theorem info66 : (Try.prog.info? 66).map (fun i => (i.zero, i.size, i.bytes)) = some (some (.agg (c66 z66).toArray), 34, 56) := by kernel_rfl
theorem built_55 (k v : ByteArray) : Try.prog.built 55 [(0, .string k), (1, .string v)] = some (c55 ⟨k, v⟩).toArray := by kernel_rfl
theorem built_66 (k : ByteArray) (x : S63) (n : Int) : Try.prog.built 66 [(0, .string k), (1, .agg (by8 (by63 x)).toArray), (2, .int .i64 n)] = some (c66 ⟨k, x, n⟩).toArray := by kernel_rfl
end Go.Proofs.Ytlgnfbgjdkbfoaa.Pg
namespace Go.Proofs.Ytlgnfbgjdkbfoaa.Pg
open Go.RowKit Go.Proofs.Ytlgnfbgjdkbfoaa.XH Go.Proofs.Ytlgnfbgjdkbfoaa.Wd Go.Proofs.YtlgnfbgjdkbfoaaW.PrintWords Go.Proofs.YtlgnfbgjdkbfoaaW.PrintLast Go.Proofs.YtlgnfbgjdkbfoaaW.PrintMore Go.Proofs.YtlgnfbgjdkbfoaaXe Go.Proofs.YtlgnfbgjdkbfoaaXs
set_option linter.unusedVariables false
set_option linter.unusedSimpArgs false
attribute [local go_sem ↓] Go.wp_at_zero Go.wp_at_succ
set_option maxHeartbeats 8000000 in
set_option maxRecDepth 100000 in
theorem c_read {w0 w : World} {Rs : List Res} (HP : Hp w0 w Rs) (A : Option Addr) (c : Nat) (b : List Int) (hb : b.length ≤ 140737488355328) (hB : ∀ x ∈ b, 0 ≤ x ∧ x < 256) (hR : ∀ w', Hp w0 w' Rs → Kd.C (Kd.int .u8) w' A b.length b) :
    Calls Try.prog 10 #[.slice A b.length c] w fun e w' => ∃ vp vl, e = .returned (.tuple #[.agg #[.int .i64 (readP b).1.1, vp, vl], .agg #[.int .i64 (readP b).2.1, .int .i64 (readP b).2.2]]) ∧ Hp w0 w' (.row k55 55 w0.heap.size vp (readP b).1.2.1 :: .row k66 66 w0.heap.size vl (readP b).1.2.2 :: Rs) := by
  have HPn := Aside0.mk ((HP.nilrow k66 66 (.slice none 0 0) (xs := []) (fun ok => Kd.R_nil _ _ _ _ _)).nilrow k55 55 (.slice none 0 0) (xs := []) (fun ok => Kd.R_nil _ _ _ _ _))
  have HBL := Aside0.mk hb
  have HBB := Aside0.mk hB
  have HR := Aside0.mk hR
  clear HP hb hB hR
  have HP := HPn
  clear HPn
  go_enter Try.func10, Try.ntmps10
  go_wp2_with (first | ((with_reducible refine gate_dst (N := 2) rfl ?_); refine ev_alloc rfl 27 rfl (.agg #[.int .i64 0, .slice none 0 0, .slice none 0 0]) (by kernel_rfl) ?_; intro r2 wa hge hg hb; have HPn := Aside0.mk (HP.out.newB hb hg hge); clear HP; have HP := HPn; clear HPn; clear hge hg hb) | ((with_reducible refine gate_dst (N := 3) rfl ?_); refine ev_alloc rfl 30 rfl (.agg #[.int .i64 0, .int .i64 0]) (by kernel_rfl) ?_; intro r3 wb hge hg hb; have HPn := Aside0.mk (HP.out.newB hb hg hge); clear HP; have HP := HPn; clear HPn; clear hge hg hb))
  refine (c_open HP.out A c b HBL.out HBB.out fun w' h => HR.out w' (Hp.dropN [_, _, _, _] h)).mono ?_; rintro e wc ⟨g, rfl, hpn⟩
  clear HP
  have HP := Aside0.mk hpn
  clear hpn
  go_wp2_with fail
  refine (c_rint HP.out 0 g b rs0 rfl 0 20).mono ?_; rintro e wc2 ⟨rfl, hpn⟩
  clear HP
  have HP := Aside0.mk (show Hp w0 wc2 (rReader w0.heap.size g b (hd1 b).2 :: .blk r3 (.cells #[.int .i64 0, .int .i64 0] 30 (0, 0)) :: .blk r2 (.cells #[.int .i64 0, .slice none 0 0, .slice none 0 0] 27 (0, 0)) :: .row k55 55 w0.heap.size (.slice none 0 0) [] :: .row k66 66 w0.heap.size (.slice none 0 0) [] :: Rs) from hpn)
  clear hpn
  rw [show (rNum b rs0 0 20 5).1 = (hd1 b).1 from rfl]
  go_wp2_with (first | ((with_reducible refine gate_dst (N := 5) rfl ?_); refine ev_alloc rfl 27 rfl (.agg #[.int .i64 0, .slice none 0 0, .slice none 0 0]) (by kernel_rfl) ?_; intro gp wd hge hg hb; have HPn := Aside0.mk (HP.out.newB hb hg hge); clear HP; have HP := HPn; clear HPn; clear hge hg hb) | ((with_reducible refine gate_store (t := 27) (p := 5) rfl ?_); refine ev_store rfl 27 (.tmp 5) (.tmp 14) rfl rfl _ rfl (cells := #[.int .i64 (hd1 b).1, .slice none 0 0, .slice none 0 0]) rfl (HP.out.blk 0 rfl) (by kernel_rfl) rfl (by simp [Value.oneCell']) ?_; intro we hg hgr; have HPn := Aside0.mk (HP.out.setB 0 rfl hgr hg); clear HP; have HP := HPn; clear HPn; clear hg hgr))
  refine (c_rcount HP.out 1 g b (hd1 b).2 rfl 16).mono ?_; rintro e wf ⟨rfl, hpn⟩
  clear HP
  have HP := Aside0.mk (show Hp w0 wf (.blk gp (.cells #[.int .i64 (hd1 b).1, .slice none 0 0, .slice none 0 0] 27 (0, 0)) :: rReader w0.heap.size g b ((hd2 b).2) :: .blk r3 (.cells #[.int .i64 0, .int .i64 0] 30 (0, 0)) :: .blk r2 (.cells #[.int .i64 0, .slice none 0 0, .slice none 0 0] 27 (0, 0)) :: .row k55 55 w0.heap.size (.slice none 0 0) ([]) :: .row k66 66 w0.heap.size (.slice none 0 0) ([]) :: Rs) from hpn)
  clear hpn
  rw [show (rNum b (hd1 b).2 0 16 3).1 = (hd2 b).1 from rfl]
  have HNB := Aside0.mk (show 0 ≤ (hd2 b).1 ∧ (hd2 b).1 ≤ 16 from rNum_low b (hd1 b).2 (by decide) (by decide))
  have HIT := Aside0.mk (show readL b (hd1 b).1 (hd2 b).1.toNat (hd2 b).2 [] [] = items b from rfl)
  obtain ⟨N, hN⟩ : ∃ N : Nat, (hd2 b).1.toNat = N := ⟨_, rfl⟩
  have HNN := Aside0.mk (show (hd2 b).1 = (N : Int) by have := HNB.out; omega)
  have HN16 := Aside0.mk (show N ≤ 16 by have := HNB.out; omega)
  rw [hN] at HIT
  clear hN HNB
  go_wp2_with fail
  go_loopg [6] N (fun kq v6 w' => ∃ (n : Int) (s : RS) (ps : List S55) (ls : List S66) (vp vl : Value), v6 = .int .i64 n ∧ Aside0 (n = (kq : Int)) ∧ Aside0 (readL b (hd1 b).1 kq s ps ls = items b) ∧ Aside0 (ps.length + ls.length + kq ≤ 16) ∧ Aside0 (Hp w0 w' (.blk gp (.cells #[.int .i64 (hd1 b).1, vp, vl] 27 (0, 0)) :: rReader w0.heap.size g b (s) :: .blk r3 (.cells #[.int .i64 0, .int .i64 0] 30 (0, 0)) :: .blk r2 (.cells #[.int .i64 0, .slice none 0 0, .slice none 0 0] 27 (0, 0)) :: .row k55 55 w0.heap.size (vp) (ps) :: .row k66 66 w0.heap.size (vl) (ls) :: Rs)))
  case atStart => exact ⟨_, _, [], [], .slice none 0 0, .slice none 0 0, rfl, HNN, HIT, ⟨by have := HN16.out; simpa using this⟩, HP⟩
  clear HP HIT HNN HN16
  obtain ⟨n, s, ps, ls, vp, vl, rfl, HN, HG, HLN, HP⟩ := hrel
  have hgk : gk = 0 ∨ ∃ k, gk = k + 1 := by cases gk with | zero => exact .inl rfl | succ k => exact .inr ⟨k, rfl⟩
  rcases hgk with hgk | ⟨k, hgk⟩
  · have d1 : decide (0 < n) = false := decide_eq_false (by have := HN.out; omega)
    have HE := Aside0.mk (show items b = (s, ps, ls) from by rw [← HG.out, hgk]; rfl)
    clear hgk HN HG
    go_wp2_with fail
    refine (c_end HP.out 1 g b s rfl).mono ?_; rintro e wg ⟨rfl, hpn⟩
    clear HP
    have HP := Aside0.mk hpn
    clear hpn
    by_cases hf : (rEnd b s).1 = 0
    · have k1 : ((rEnd b s).1 != 0) = false := by simpa using hf
      have k2 : ((rEnd b s).1 == 0) = true := by simpa using hf
      have k3 : decide ((rEnd b s).1 = 0) = true := decide_eq_true hf
      have HF := Aside0.mk hf
      obtain ⟨Ap, cp, rfl⟩ := Kd.R_slice (HP.out.row 4 rfl)
      obtain ⟨Al, cl, rfl⟩ := Kd.R_slice (HP.out.row 5 rfl)
      clear hf
      go_wp2_with (first | ((with_reducible refine gate_dst (N := 9) rfl ?_); refine ev_alloc rfl 30 rfl (.agg #[.int .i64 0, .int .i64 0]) (by kernel_rfl) ?_; intro g9 wh hge hg hb; have HPn := Aside0.mk (HP.out.newB hb hg hge); clear HP; have HP := HPn; clear HPn; clear hge hg hb) | ((with_reducible refine gate_store (t := 30) (p := 9) rfl ?_); refine ev_store rfl 30 (.tmp 9) (.tmp 54) rfl rfl _ rfl (cells := #[.int .i64 (rEnd b s).1, .int .i64 (rEnd b s).2]) rfl (HP.out.blk 0 rfl) (by kernel_rfl) rfl (by simp [Value.oneCell']) ?_; intro wi hg hgr; have HPn := Aside0.mk (HP.out.setB 0 rfl hgr hg); clear HP; have HP := HPn; clear HPn; clear hg hgr; have h9a : wi.cell? ⟨g9, 0, none⟩ = some (.int .i64 (rEnd b s).1) := blk_cell (HP.out.blk 0 rfl) 0; have h9b : wi.cell? ⟨g9, 1, none⟩ = some (.int .i64 (rEnd b s).2) := blk_cell (HP.out.blk 0 rfl) 1) | ((with_reducible refine gate_dst (N := 60) rfl ?_); refine ev_load rfl 27 (.tmp 5) rfl gp rfl (HP.out.blk 1 rfl) Try.underlying27 rfl (by kernel_rfl) ?_))
      have HCK := Aside0.mk (c_pcheck (hd1 b).1 Ap cp ps Al cl ls wi (Kd.R_reads' (HP.out.row 5 rfl)).2.2 (Kd.R_reads' (HP.out.row 6 rfl)).2.2 (Kd.R_reads' (HP.out.row 5 rfl)).2.1 (Kd.R_reads' (HP.out.row 6 rfl)).2.1 (by have := HLN.out; omega) (by have := HLN.out; omega))
      refine HCK.out.mono ?_; rintro e wj ⟨rfl, hb⟩
      have HPn := Aside0.mk (HP.out.call hb)
      clear HP hb HCK h9a h9b
      have HP := HPn
      clear HPn
      by_cases hp0 : pageS (hd1 b).1 ps ls = 0
      · have HRP := Aside0.mk (show readP b = (((hd1 b).1, ps, ls), (0, 0)) from by unfold readP; rw [HE.out, if_neg (by simpa using HF.out), if_neg (by simpa using hp0)])
        rw [hp0]
        clear hp0
        go_wp2_with (first | ((with_reducible refine gate_dst (N := 65) rfl ?_); refine ev_load rfl 27 (.tmp 5) rfl gp rfl (HP.out.blk 1 rfl) Try.underlying27 rfl (by kernel_rfl) ?_) | ((with_reducible refine gate_store (t := 27) (p := 2) rfl ?_); refine ev_store rfl 27 (.tmp 2) (.tmp 65) rfl rfl _ rfl (cells := #[.int .i64 (hd1 b).1, .slice Ap ps.length cp, .slice Al ls.length cl]) rfl (HP.out.blk 4 rfl) (by kernel_rfl) rfl (by simp [Value.oneCell']) ?_; intro wk hg hgr; have HPn := Aside0.mk (HP.out.setB 4 rfl hgr hg); clear HP; have HP := HPn; clear HPn; clear hg hgr) | ((with_reducible refine gate_store (t := 30) (p := 3) rfl ?_); refine ev_store rfl 30 (.tmp 3) (.tmp 66) rfl rfl _ rfl (cells := #[.int .i64 0, .int .i64 0]) rfl (HP.out.blk 3 rfl) (by kernel_rfl) rfl (by simp [Value.oneCell']) ?_; intro wl hg hgr; have HPn := Aside0.mk (HP.out.setB 3 rfl hgr hg); clear HP; have HP := HPn; clear HPn; clear hg hgr))
        refine bodyPost_ret (results_cells rfl _ _ rfl (HP.out.blk 4 rfl) Try.underlying27 rfl (by kernel_rfl) rfl (HP.out.blk 3 rfl) Try.underlying30 rfl (by kernel_rfl)) rfl ?_
        rw [HRP.out]
        exact ⟨_, _, rfl, Hp.dropN [_, _, _, _, _] HP.out⟩
      · have HRP := Aside0.mk (show readP b = ((0, [], []), (2, 0)) from by unfold readP; rw [HE.out, if_neg (by simpa using HF.out), if_pos (by simpa using hp0)])
        have m1 : (pageS (hd1 b).1 ps ls != 0) = true := by simpa using hp0
        have m2 : (pageS (hd1 b).1 ps ls == 0) = false := by simpa using hp0
        have m3 : decide (pageS (hd1 b).1 ps ls = 0) = false := decide_eq_false hp0
        clear hp0
        go_wp2_with (first | ((with_reducible refine gate_store (t := 27) (p := 2) rfl ?_); refine ev_store rfl 27 (.tmp 2) (.tmp 63) rfl rfl _ rfl (cells := #[.int .i64 0, .slice none 0 0, .slice none 0 0]) rfl (HP.out.blk 4 rfl) (by kernel_rfl) rfl (by simp [Value.oneCell']) ?_; intro wk hg hgr; have HPn := Aside0.mk (HP.out.setB 4 rfl hgr hg); clear HP; have HP := HPn; clear HPn; clear hg hgr) | ((with_reducible refine gate_store (t := 30) (p := 3) rfl ?_); refine ev_store rfl 30 (.tmp 3) (.tmp 64) rfl rfl _ rfl (cells := #[.int .i64 2, .int .i64 0]) rfl (HP.out.blk 3 rfl) (by kernel_rfl) rfl (by simp [Value.oneCell']) ?_; intro wl hg hgr; have HPn := Aside0.mk (HP.out.setB 3 rfl hgr hg); clear HP; have HP := HPn; clear HPn; clear hg hgr))
        refine bodyPost_ret (results_cells rfl _ _ rfl (HP.out.blk 4 rfl) Try.underlying27 rfl (by kernel_rfl) rfl (HP.out.blk 3 rfl) Try.underlying30 rfl (by kernel_rfl)) rfl ?_
        rw [HRP.out]
        exact ⟨.slice none 0 0, .slice none 0 0, rfl, ((Hp.dropN [_, _, _, _, _, _, _] HP.out).nilrow k66 66 (.slice none 0 0) (xs := []) (fun ok => Kd.R_nil _ _ _ _ _)).nilrow k55 55 (.slice none 0 0) (xs := []) (fun ok => Kd.R_nil _ _ _ _ _)⟩
    · have k1 : ((rEnd b s).1 != 0) = true := by simpa using hf
      have k2 : ((rEnd b s).1 == 0) = false := by simpa using hf
      have k3 : decide ((rEnd b s).1 = 0) = false := decide_eq_false hf
      have HRP := Aside0.mk (show readP b = ((0, [], []), rEnd b s) from by unfold readP; rw [HE.out, if_pos hf])
      clear hf
      go_upto_region 13 with (first | ((with_reducible refine gate_dst (N := 9) rfl ?_); refine ev_alloc rfl 30 rfl (.agg #[.int .i64 0, .int .i64 0]) (by kernel_rfl) ?_; intro g9 wh hge hg hb; have HPn := Aside0.mk (HP.out.newB hb hg hge); clear HP; have HP := HPn; clear HPn; clear hge hg hb) | ((with_reducible refine gate_store (t := 30) (p := 9) rfl ?_); refine ev_store rfl 30 (.tmp 9) (.tmp 54) rfl rfl _ rfl (cells := #[.int .i64 (rEnd b s).1, .int .i64 (rEnd b s).2]) rfl (HP.out.blk 0 rfl) (by kernel_rfl) rfl (by simp [Value.oneCell']) ?_; intro wi hg hgr; have HPn := Aside0.mk (HP.out.setB 0 rfl hgr hg); clear HP; have HP := HPn; clear HPn; clear hg hgr; have h9a : wi.cell? ⟨g9, 0, none⟩ = some (.int .i64 (rEnd b s).1) := blk_cell (HP.out.blk 0 rfl) 0; have h9b : wi.cell? ⟨g9, 1, none⟩ = some (.int .i64 (rEnd b s).2) := blk_cell (HP.out.blk 0 rfl) 1))
      clear h9a h9b
      refine held_named (S := (fun w' => w'.rangeAt g9 0 [.int .i64 (rEnd b s).1, .int .i64 (rEnd b s).2])) (by kernel_rfl) (fun wd13 hwd13 => ?_)
      have HPn := Aside0.mk (HP.out.drewN 1)
      rw [← World.drew_is_drewN, hwd13] at HPn
      clear HP hwd13
      have HP := HPn
      clear HPn
      refine ⟨by (try dsimp only); exact rangeB (HP.out.blk 0 rfl), fun hHeld => ?_⟩
      refine wpAnyH_take (i := 0) (oi := ({ dst := (some 58), op := (Op.build 27 #[]), type := 27, pos := "page.go:139", after := #[], guard := none } : Oper)) (v := ?_) rfl (by kernel_rfl) (by kernel_rfl) (by kernel_rfl) (fun _ _ _ h => h) (Or.inl ⟨by rfl, ?_⟩) hHeld ?_
      rotate_left
      · intro w_ hSw; (try dsimp only at hSw); go_simp; try (with_reducible rfl)
      try simp only [Act.put, List.setIfInBounds_toArray, List.set_cons_zero, List.set_cons_succ]
      refine wpAnyH_take (i := 1) (oi := ({ dst := (some 59), op := (Op.load 30 (Operand.tmp 9)), type := 30, pos := "page.go:139", after := #[{ on := 2, ground := (Ground.gcOnly Departure.lateStores) }], guard := none } : Oper)) (v := _) rfl (by kernel_rfl) (by kernel_rfl) (by kernel_rfl) (fun _ _ _ h => h) (yieldsIf_load_mid (by rfl) _ _ rfl _ _ rfl _ _ (fun w hw => hw) Try.underlying30 rfl (by kernel_rfl)) hHeld ?_
      try simp only [Act.put, List.setIfInBounds_toArray, List.set_cons_zero, List.set_cons_succ]
      refine wpAnyH_ready (rs := [2]) (by kernel_rfl) (by simp) ?_
      refine AllReadyH.cons (o := ({ dst := none, op := (Op.store 27 (Operand.tmp 2) (Operand.tmp 58)), type := 0, pos := "page.go:139", after := #[{ on := 0, ground := Ground.data }, { on := 0, ground := Ground.phase }, { on := 1, ground := (Ground.textOnly Departure.lateStores) }], guard := none } : Oper)) rfl (fun K hK => ?_) AllReadyH.nil
      refine st_store (by rfl) 27 _ _ (by rfl) rfl r2 (by rfl) (cells := #[.int .i64 0, .slice none 0 0, .slice none 0 0]) (by rfl) (HP.out.blk 4 rfl) (by kernel_rfl) rfl (by simp [Value.oneCell']) ?_; intro wm hg hgr; have HPn := Aside0.mk (HP.out.setB 4 rfl hgr hg); clear HP hg hgr; have HP := HPn; clear HPn
      clear hHeld
      refine hK.out _ _ ?_ (fun hHeld => ?_)
      · (try dsimp only); exact rangeB (HP.out.blk 0 rfl)
      clear hK K
      try simp only [Act.put, List.setIfInBounds_toArray, List.set_cons_zero, List.set_cons_succ]
      refine wpAnyH_ready (rs := [3]) (by kernel_rfl) (by simp) ?_
      refine AllReadyH.cons (o := ({ dst := none, op := (Op.store 30 (Operand.tmp 3) (Operand.tmp 59)), type := 0, pos := "page.go:139", after := #[{ on := 1, ground := Ground.data }, { on := 2, ground := Ground.chain }, { on := 0, ground := Ground.phase }, { on := 1, ground := Ground.phase }, { on := 2, ground := Ground.phase }], guard := none } : Oper)) rfl (fun K hK => ?_) AllReadyH.nil
      refine st_store (by rfl) 30 _ _ (by rfl) rfl r3 (by rfl) (cells := #[.int .i64 (rEnd b s).1, .int .i64 (rEnd b s).2]) (by rfl) (HP.out.blk 3 rfl) (by kernel_rfl) rfl (by simp [Value.oneCell']) ?_; intro wn hg hgr; have HPn := Aside0.mk (HP.out.setB 3 rfl hgr hg); clear HP hg hgr; have HP := HPn; clear HPn
      clear hHeld
      refine hK.out _ _ ?_ (fun hHeld => ?_)
      · (try dsimp only); exact rangeB (HP.out.blk 0 rfl)
      clear hK K
      try simp only [Act.put, List.setIfInBounds_toArray, List.set_cons_zero, List.set_cons_succ]
      refine wpAnyH_done (by kernel_rfl) ?_ _
      go_wp2_with fail
      refine bodyPost_ret (results_cells rfl _ _ rfl (HP.out.blk 4 rfl) Try.underlying27 rfl (by kernel_rfl) rfl (HP.out.blk 3 rfl) Try.underlying30 rfl (by kernel_rfl)) rfl ?_
      rw [HRP.out]
      exact ⟨.slice none 0 0, .slice none 0 0, rfl, ((Hp.dropN [_, _, _, _, _, _, _] HP.out).nilrow k66 66 (.slice none 0 0) (xs := []) (fun ok => Kd.R_nil _ _ _ _ _)).nilrow k55 55 (.slice none 0 0) (xs := []) (fun ok => Kd.R_nil _ _ _ _ _)⟩
  · have d1 : decide (0 < n) = true := decide_eq_true (by have := HN.out; omega)
    have e1 : IntKind.i64.wrap (n - 1) = n - 1 := IntWalk.i64_in _ (by have h1 := HN.out; have h2 := HLN.out; omega)
    have HGK := Aside0.mk hgk
    clear hgk
    go_wp2_with fail
    refine (c_fault HP.out 1 g b s rfl).mono ?_; rintro e wa1 ⟨rfl, hpn⟩
    clear HP
    have HP := Aside0.mk hpn
    clear hpn
    have hfd : ∀ W, (Instr.field 30 (.agg #[.int .i64 s.err, .int .i64 s.fat]) 0).run Try.prog W = .ok (.int .i64 s.err) W := fun _ => by kernel_rfl
    by_cases he : s.err = 0
    · have d2 : (s.err == 0) = true := by simpa using he
      have d3 : decide (s.err = 0) = true := decide_eq_true he
      have HSE := Aside0.mk he
      clear he
      go_wp2_with fail
      refine (c_rtext HP.out 1 g b s rfl 32 (by decide)).mono ?_; rintro e wa2 ⟨rfl, hpn⟩
      clear HP
      have HP := Aside0.mk (show Hp w0 wa2 (.blk gp (.cells #[.int .i64 (hd1 b).1, vp, vl] 27 (0, 0)) :: rReader w0.heap.size g b ((rTxt b s 32).2) :: .blk r3 (.cells #[.int .i64 0, .int .i64 0] 30 (0, 0)) :: .blk r2 (.cells #[.int .i64 0, .slice none 0 0, .slice none 0 0] 27 (0, 0)) :: .row k55 55 w0.heap.size (vp) (ps) :: .row k66 66 w0.heap.size (vl) (ls) :: Rs) from hpn)
      clear hpn
      have hc0 : wa2.cell? ⟨gp, 0, none⟩ = some (.int .i64 (hd1 b).1) := blk_cell (HP.out.blk 0 rfl) 0
      by_cases hlv : (hd1 b).1 = 0
      · have d4 : ((hd1 b).1 == 0) = true := by simpa using hlv
        have d5 : decide ((hd1 b).1 = 0) = true := decide_eq_true hlv
        have HLV := Aside0.mk hlv
        clear hlv
        go_upto_region 8 with fail
        clear hc0
        obtain ⟨Ap, cp, rfl⟩ := Kd.R_slice (HP.out.row 4 rfl)
        refine last_named (ds := [9]) (S := (fun w' => w'.cell? ⟨gp, 1, none⟩ = some (.slice Ap ps.length cp))) (by kernel_rfl) (fun wd8 hwd8 => ?_)
        have HPn := Aside0.mk (HP.out.drewN 1)
        rw [← World.drew_is_drewN, hwd8] at HPn
        clear HP hwd8
        have HP := HPn
        clear HPn
        refine ⟨by (try dsimp only); first | exact blk_cell (HP.out.blk 1 rfl) 1 | exact blk_cell (HP.out.blk 0 rfl) 1, fun hHeld => ?_⟩
        refine wpAnyLast_take (i := 0) (oi := ({ dst := (some 32), op := (Op.fieldAddr 27 (Operand.tmp 5) 1), type := 0, pos := "page.go:132", after := #[], guard := none } : Oper)) (v := ?_) rfl (by kernel_rfl) (by kernel_rfl) (by kernel_rfl) (by kernel_rfl) (by kernel_rfl) (fun _ _ _ h => h) (Or.inl ⟨by rfl, ?_⟩) hHeld ?_
        rotate_left
        · intro w_ hSw; (try dsimp only at hSw); go_simp; try (with_reducible rfl)
        try simp only [Act.put, List.setIfInBounds_toArray, List.set_cons_zero, List.set_cons_succ]
        refine wpAnyLast_take (i := 1) (oi := ({ dst := (some 33), op := (Op.load 24 (Operand.tmp 32)), type := 24, pos := "page.go:132", after := #[{ on := 0, ground := Ground.data }], guard := none } : Oper)) (v := ?_) rfl (by kernel_rfl) (by kernel_rfl) (by kernel_rfl) (by kernel_rfl) (by kernel_rfl) (fun _ _ _ h => h) (Or.inl ⟨by rfl, ?_⟩) hHeld ?_
        rotate_left
        · intro w_ hSw; (try dsimp only at hSw); go_simp; try (with_reducible rfl)
        try simp only [Act.put, List.setIfInBounds_toArray, List.set_cons_zero, List.set_cons_succ]
        refine wpAnyLast_take (i := 2) (oi := ({ dst := (some 34), op := (Op.move (Operand.tmp 7)), type := 9, pos := "page.go:132", after := #[], guard := none } : Oper)) (v := ?_) rfl (by kernel_rfl) (by kernel_rfl) (by kernel_rfl) (by kernel_rfl) (by kernel_rfl) (fun _ _ _ h => h) (Or.inl ⟨by rfl, ?_⟩) hHeld ?_
        rotate_left
        · intro w_ hSw; (try dsimp only at hSw); go_simp; try (with_reducible rfl)
        try simp only [Act.put, List.setIfInBounds_toArray, List.set_cons_zero, List.set_cons_succ]
        refine wpAnyLast_take (i := 3) (oi := ({ dst := (some 35), op := (Op.move (Operand.tmp 4)), type := 57, pos := "page.go:132", after := #[], guard := none } : Oper)) (v := ?_) rfl (by kernel_rfl) (by kernel_rfl) (by kernel_rfl) (by kernel_rfl) (by kernel_rfl) (fun _ _ _ h => h) (Or.inl ⟨by rfl, ?_⟩) hHeld ?_
        rotate_left
        · intro w_ hSw; (try dsimp only at hSw); go_simp; try (with_reducible rfl)
        try simp only [Act.put, List.setIfInBounds_toArray, List.set_cons_zero, List.set_cons_succ]
        refine wpAnyLast_ready (rs := [4]) (by kernel_rfl) (by simp) ?_
        refine AllReadyL.cons (o := ({ dst := (some 36), op := (Op.call { callee := (Callee.value (Operand.func 34)), args := #[(Operand.tmp 35), (Operand.const (Value.int IntKind.i64 64))], argTypes := #[57, 3] }), type := 9, pos := "page.go:132", after := #[{ on := 3, ground := Ground.data }], guard := none } : Oper)) rfl (by decide) (fun K hK => ?_) AllReadyL.nil
        go_simp
        go_at_call 34; refine (c_rtext HP.out 1 g b _ rfl 64 (by decide)).mono ?_; rintro e w_ ⟨rfl, hpn⟩; clear HP; have HP := Aside0.mk (show Hp w0 w_ (.blk gp (.cells #[.int .i64 (hd1 b).1, .slice Ap ps.length cp, vl] 27 (0, 0)) :: rReader w0.heap.size g b ((rTxt b (rTxt b s 32).2 64).2) :: .blk r3 (.cells #[.int .i64 0, .int .i64 0] 30 (0, 0)) :: .blk r2 (.cells #[.int .i64 0, .slice none 0 0, .slice none 0 0] 27 (0, 0)) :: .row k55 55 w0.heap.size (.slice Ap ps.length cp) (ps) :: .row k66 66 w0.heap.size (vl) (ls) :: Rs) from hpn); clear hpn
        go_wp2_with fail
        clear hHeld
        refine hK.out _ _ ?_ (fun hHeld => ?_)
        · (try dsimp only); first | exact blk_cell (HP.out.blk 1 rfl) 1 | exact blk_cell (HP.out.blk 0 rfl) 1
        clear hK K
        try simp only [Act.put, List.setIfInBounds_toArray, List.set_cons_zero, List.set_cons_succ]
        refine wpAnyLast_take (i := 5) (oi := ({ dst := (some 37), op := (Op.build 55 #[(0, (Operand.tmp 34)), (1, (Operand.tmp 36))]), type := 55, pos := "page.go:132", after := #[{ on := 2, ground := Ground.data }, { on := 4, ground := Ground.data }], guard := none } : Oper)) (v := .agg (c55 (⟨strOfNums (rTxt b s 32).1, strOfNums (rTxt b (rTxt b s 32).2 64).1⟩ : S55)).toArray) rfl (by kernel_rfl) (by kernel_rfl) (by kernel_rfl) (by kernel_rfl) (by kernel_rfl) (fun _ _ _ h => h) (Or.inl ⟨by rfl, fun w_ hSw => run_op_build _ _ (by rfl) [(0, .string (strOfNums (rTxt b s 32).1)), (1, .string (strOfNums (rTxt b (rTxt b s 32).2 64).1))] (by rfl) (built_55 _ _)⟩) hHeld ?_
        try simp only [Act.put, List.setIfInBounds_toArray, List.set_cons_zero, List.set_cons_succ]
        refine wpAnyLast_ready (rs := [6]) (by kernel_rfl) (by simp) ?_
        refine AllReadyL.cons (o := ({ dst := (some 38), op := (Op.buildSlice 24 1 #[(0, (Operand.tmp 37))]), type := 24, pos := "page.go:132", after := #[{ on := 5, ground := Ground.data }], guard := none } : Oper)) rfl (by decide) (fun K hK => ?_) AllReadyL.nil
        refine st_run (by rfl) (op_s55 (⟨strOfNums (rTxt b s 32).1, strOfNums (rTxt b (rTxt b s 32).2 64).1⟩ : S55) (x := .tmp 37) (by exact ⟨rfl, rfl⟩)) ?_; obtain ⟨w1, hw1⟩ : ∃ z, w_.alloc (.cells (c55 (⟨strOfNums (rTxt b s 32).1, strOfNums (rTxt b (rTxt b s 32).2 64).1⟩ : S55)).toArray 55) = z := ⟨_, rfl⟩; obtain ⟨g1, hg1⟩ : ∃ z, w_.heap.size = z := ⟨_, rfl⟩; have HPn := Aside0.mk (HP.out.alloc (.cells (c55 (⟨strOfNums (rTxt b s 32).1, strOfNums (rTxt b (rTxt b s 32).2 64).1⟩ : S55)).toArray 55 (0, 0))); rw [hw1, hg1] at HPn; rw [hw1, hg1]; clear HP hw1 hg1; have HP := HPn; clear HPn
        clear hHeld
        refine hK.out _ _ ?_ (fun hHeld => ?_)
        · (try dsimp only); first | exact blk_cell (HP.out.blk 1 rfl) 1 | exact blk_cell (HP.out.blk 0 rfl) 1
        clear hK K
        try simp only [Act.put, List.setIfInBounds_toArray, List.set_cons_zero, List.set_cons_succ]
        refine wpAnyLast_ready (rs := [7]) (by kernel_rfl) (by simp) ?_
        refine AllReadyL.cons (o := ({ dst := (some 39), op := (Op.call { callee := (Callee.builtin Builtin.append), args := #[(Operand.tmp 33), (Operand.tmp 38)], argTypes := #[24, 24] }), type := 24, pos := "page.go:132", after := #[{ on := 1, ground := Ground.data }, { on := 6, ground := Ground.data }, { on := 4, ground := Ground.chain }], guard := none } : Oper)) rfl (by decide) (fun K hK => ?_) AllReadyL.nil
        refine st_append plain_55 HP.out 5 (by rfl) _ _ 24 55 _ 32 (by rfl) Try.underlying24 info55 rfl (by decide) (by decide) (.slice Ap ps.length cp) ps [(⟨strOfNums (rTxt b s 32).1, strOfNums (rTxt b (rTxt b s 32).2 64).1⟩ : S55)] (some ⟨g1, 0, none⟩) 1 1 (by rfl) (by rfl) rfl (C_blk1 k55 (HP.out.blk 0 rfl) (k55_mk _ (⟨strOfNums (rTxt b s 32).1, strOfNums (rTxt b (rTxt b s 32).2 64).1⟩ : S55))) (by have := HLN.out; omega) ?_; intro v2 w2 hpn; clear HP; have HP := Aside0.mk hpn; clear hpn; obtain ⟨A2, c2, rfl⟩ := Kd.R_slice (HP.out.row 5 rfl); simp only [List.length_append, List.length_cons, List.length_nil, Nat.zero_add] at HP; (try simp only [List.length_append, List.length_cons, List.length_nil, Nat.zero_add])
        clear hHeld
        refine hK.out _ _ ?_ (fun hHeld => ?_)
        · (try dsimp only); first | exact blk_cell (HP.out.blk 1 rfl) 1 | exact blk_cell (HP.out.blk 0 rfl) 1
        clear hK K
        try simp only [Act.put, List.setIfInBounds_toArray, List.set_cons_zero, List.set_cons_succ]
        refine wpAnyLast_take (i := 8) (oi := ({ dst := (some 40), op := (Op.fieldAddr 27 (Operand.tmp 5) 1), type := 0, pos := "page.go:132", after := #[{ on := 0, ground := Ground.phase }, { on := 1, ground := Ground.phase }, { on := 2, ground := Ground.phase }, { on := 3, ground := Ground.phase }, { on := 4, ground := Ground.phase }, { on := 5, ground := Ground.phase }, { on := 6, ground := Ground.phase }, { on := 7, ground := Ground.phase }], guard := none } : Oper)) (v := ?_) rfl (by kernel_rfl) (by kernel_rfl) (by kernel_rfl) (by kernel_rfl) (by kernel_rfl) (fun _ _ _ h => h) (Or.inl ⟨by rfl, ?_⟩) hHeld ?_
        rotate_left
        · intro w_ hSw; (try dsimp only at hSw); go_simp; try (with_reducible rfl)
        try simp only [Act.put, List.setIfInBounds_toArray, List.set_cons_zero, List.set_cons_succ]
        refine wpAnyLast_ready (rs := [9]) (by kernel_rfl) (by simp) ?_
        refine AllReadyL.cons_last (o := ({ dst := none, op := (Op.store 24 (Operand.tmp 40) (Operand.tmp 39)), type := 0, pos := "page.go:132", after := #[{ on := 8, ground := Ground.data }, { on := 7, ground := Ground.data }, { on := 7, ground := Ground.chain }, { on := 0, ground := Ground.phase }, { on := 1, ground := Ground.phase }, { on := 2, ground := Ground.phase }, { on := 3, ground := Ground.phase }, { on := 4, ground := Ground.phase }, { on := 5, ground := Ground.phase }, { on := 6, ground := Ground.phase }, { on := 7, ground := Ground.phase }], guard := none } : Oper)) rfl (by decide) (fun K hK => ?_) AllReadyL.nil
        have hc6 := blk_cell (HP.out.blk 1 rfl) 1; have hf6 := blk_frozen (HP.out.blk 1 rfl) 1; go_simp; have HPn := Aside0.mk (HP.out.setCell 1 rfl 1 (.slice A2 (ps.length + 1) c2)); clear HP hc6 hf6; have HP := HPn; clear HPn
        clear hHeld
        refine hK.out _ _ ?_
        clear hK K
        try simp only [Act.put, List.setIfInBounds_toArray, List.set_cons_zero, List.set_cons_succ]
        refine wpAnyLast_done (by kernel_rfl) ?_ _
        have HPn := Aside0.mk HP.out.drop1
        clear HP
        go_wp2_with fail
        go_roundg k
        case measure => have := HGK.out; omega
        case rel => exact ⟨n - 1, _, ps ++ [(⟨strOfNums (rTxt b s 32).1, strOfNums (rTxt b (rTxt b s 32).2 64).1⟩ : S55)], ls, .slice A2 (ps.length + 1) c2, vl, rfl, ⟨by have h1 := HN.out; have h2 := HGK.out; omega⟩, ⟨by have h := HG.out; rw [HGK.out] at h; rw [← h, readL, if_pos HSE.out, if_pos HLV.out]⟩, ⟨by have h1 := HLN.out; have h2 := HGK.out; simp only [List.length_append, List.length_cons, List.length_nil]; omega⟩, HPn⟩
      · have d4 : ((hd1 b).1 == 0) = false := by simpa using hlv
        have d5 : decide ((hd1 b).1 = 0) = false := decide_eq_false hlv
        have HLV := Aside0.mk hlv
        clear hlv
        go_wp2_with fail
        clear hc0
        refine (c_rid HP.out 1 g b _ rfl).mono ?_; rintro e wa3 ⟨rfl, hpn⟩
        clear HP
        have HP := Aside0.mk (show Hp w0 wa3 (.blk gp (.cells #[.int .i64 (hd1 b).1, vp, vl] 27 (0, 0)) :: rReader w0.heap.size g b ((rId b (rTxt b s 32).2).2) :: .blk r3 (.cells #[.int .i64 0, .int .i64 0] 30 (0, 0)) :: .blk r2 (.cells #[.int .i64 0, .slice none 0 0, .slice none 0 0] 27 (0, 0)) :: .row k55 55 w0.heap.size (vp) (ps) :: .row k66 66 w0.heap.size (vl) (ls) :: Rs) from hpn)
        clear hpn
        rw [← by63_mk (rId b (rTxt b s 32).2).1 (rId_len b _)]
        obtain ⟨Al, cl, rfl⟩ := Kd.R_slice (HP.out.row 5 rfl)
        have hu63 := Try.underlying63
        have hi63 : (Try.prog.info? 63).map (·.size) = some (by8 (by63 (mk63 (rId b (rTxt b s 32).2).1))).length := by kernel_rfl
        go_upto_region 10 with (first | ((with_reducible refine gate_dst (N := 8) rfl ?_); refine ev_alloc rfl 63 rfl (.agg (by8 (by63 z63)).toArray) (by kernel_rfl) ?_; intro gi wa4 hge hg hb; have HPn := Aside0.mk (HP.out.newB hb hg hge); clear HP; have HP := HPn; clear HPn; clear hge hg hb) | ((with_reducible refine gate_store (t := 63) (p := 8) rfl ?_); refine ev_store rfl 63 (.tmp 8) (.tmp 42) rfl rfl _ rfl (cells := (by8 (by63 (mk63 (rId b (rTxt b s 32).2).1))).toArray) rfl (HP.out.blk 0 rfl) (by rw [List.size_toArray]; exact hi63) rfl (by simp [by8, by63, Value.oneCell']) ?_; intro wa5 hg hgr; have HPn := Aside0.mk (HP.out.setB 0 rfl hgr hg); clear HP; have HP := HPn; clear HPn; clear hg hgr))
        refine last_named (ds := [10]) (S := (fun w' => w'.cell? ⟨gp, 2, none⟩ = some (.slice Al ls.length cl) ∧ w'.rangeAt gi 0 (by8 (by63 (mk63 (rId b (rTxt b s 32).2).1))))) (by kernel_rfl) (fun wd10 hwd10 => ?_)
        have HPn := Aside0.mk (HP.out.drewN 1)
        rw [← World.drew_is_drewN, hwd10] at HPn
        clear HP hwd10
        have HP := HPn
        clear HPn
        refine ⟨by (try dsimp only); first | exact ⟨blk_cell (HP.out.blk 2 rfl) 2, rangeB (HP.out.blk 1 rfl)⟩ | exact ⟨blk_cell (HP.out.blk 1 rfl) 2, rangeB (HP.out.blk 0 rfl)⟩, fun hHeld => ?_⟩
        refine wpAnyLast_take (i := 0) (oi := ({ dst := (some 43), op := (Op.fieldAddr 27 (Operand.tmp 5) 2), type := 0, pos := "page.go:136", after := #[], guard := none } : Oper)) (v := ?_) rfl (by kernel_rfl) (by kernel_rfl) (by kernel_rfl) (by kernel_rfl) (by kernel_rfl) (fun _ _ _ h => h) (Or.inl ⟨by rfl, ?_⟩) hHeld ?_
        rotate_left
        · intro w_ hSw; (try dsimp only at hSw); go_simp; try (with_reducible rfl)
        try simp only [Act.put, List.setIfInBounds_toArray, List.set_cons_zero, List.set_cons_succ]
        refine wpAnyLast_take (i := 1) (oi := ({ dst := (some 44), op := (Op.load 25 (Operand.tmp 43)), type := 25, pos := "page.go:136", after := #[{ on := 0, ground := Ground.data }], guard := none } : Oper)) (v := ?_) rfl (by kernel_rfl) (by kernel_rfl) (by kernel_rfl) (by kernel_rfl) (by kernel_rfl) (fun _ _ _ h => h) (Or.inl ⟨by rfl, ?_⟩) hHeld ?_
        rotate_left
        · intro w_ hSw; (try dsimp only at hSw); go_simp; try (with_reducible rfl)
        try simp only [Act.put, List.setIfInBounds_toArray, List.set_cons_zero, List.set_cons_succ]
        refine wpAnyLast_take (i := 2) (oi := ({ dst := (some 45), op := (Op.move (Operand.tmp 7)), type := 9, pos := "page.go:136", after := #[], guard := none } : Oper)) (v := ?_) rfl (by kernel_rfl) (by kernel_rfl) (by kernel_rfl) (by kernel_rfl) (by kernel_rfl) (fun _ _ _ h => h) (Or.inl ⟨by rfl, ?_⟩) hHeld ?_
        rotate_left
        · intro w_ hSw; (try dsimp only at hSw); go_simp; try (with_reducible rfl)
        try simp only [Act.put, List.setIfInBounds_toArray, List.set_cons_zero, List.set_cons_succ]
        refine wpAnyLast_take (i := 3) (oi := ({ dst := (some 46), op := (Op.load 63 (Operand.tmp 8)), type := 63, pos := "page.go:136", after := #[], guard := none } : Oper)) (v := _) rfl (by kernel_rfl) (by kernel_rfl) (by kernel_rfl) (by kernel_rfl) (by kernel_rfl) (fun _ _ _ h => h) (yieldsIf_load_mid (by rfl) _ _ rfl _ _ rfl _ _ (fun w hw => hw.2) hu63 rfl hi63) hHeld ?_
        try simp only [Act.put, List.setIfInBounds_toArray, List.set_cons_zero, List.set_cons_succ]
        refine wpAnyLast_take (i := 4) (oi := ({ dst := (some 47), op := (Op.move (Operand.tmp 4)), type := 57, pos := "page.go:136", after := #[], guard := none } : Oper)) (v := ?_) rfl (by kernel_rfl) (by kernel_rfl) (by kernel_rfl) (by kernel_rfl) (by kernel_rfl) (fun _ _ _ h => h) (Or.inl ⟨by rfl, ?_⟩) hHeld ?_
        rotate_left
        · intro w_ hSw; (try dsimp only at hSw); go_simp; try (with_reducible rfl)
        try simp only [Act.put, List.setIfInBounds_toArray, List.set_cons_zero, List.set_cons_succ]
        refine wpAnyLast_ready (rs := [5]) (by kernel_rfl) (by simp) ?_
        refine AllReadyL.cons (o := ({ dst := (some 48), op := (Op.call { callee := (Callee.value (Operand.func 31)), args := #[(Operand.tmp 47), (Operand.const (Value.int IntKind.i64 1)), (Operand.const (Value.int IntKind.i64 65536))], argTypes := #[57, 3, 3] }), type := 3, pos := "page.go:136", after := #[{ on := 4, ground := Ground.data }], guard := none } : Oper)) rfl (by decide) (fun K hK => ?_) AllReadyL.nil
        go_simp
        go_at_call 31; refine (c_rint HP.out 2 g b _ rfl 1 65536).mono ?_; rintro e w_ ⟨rfl, hpn⟩; clear HP; have HP := Aside0.mk (show Hp w0 w_ (.blk gi (.cells (by8 (by63 (mk63 (rId b (rTxt b s 32).2).1))).toArray 63 (0, 0)) :: .blk gp (.cells #[.int .i64 (hd1 b).1, vp, .slice Al ls.length cl] 27 (0, 0)) :: rReader w0.heap.size g b ((rNum b (rId b (rTxt b s 32).2).2 1 65536 5).2) :: .blk r3 (.cells #[.int .i64 0, .int .i64 0] 30 (0, 0)) :: .blk r2 (.cells #[.int .i64 0, .slice none 0 0, .slice none 0 0] 27 (0, 0)) :: .row k55 55 w0.heap.size (vp) (ps) :: .row k66 66 w0.heap.size (.slice Al ls.length cl) (ls) :: Rs) from hpn); clear hpn
        go_wp2_with fail
        clear hHeld
        refine hK.out _ _ ?_ (fun hHeld => ?_)
        · (try dsimp only); first | exact ⟨blk_cell (HP.out.blk 2 rfl) 2, rangeB (HP.out.blk 1 rfl)⟩ | exact ⟨blk_cell (HP.out.blk 1 rfl) 2, rangeB (HP.out.blk 0 rfl)⟩
        clear hK K
        try simp only [Act.put, List.setIfInBounds_toArray, List.set_cons_zero, List.set_cons_succ]
        refine wpAnyLast_take (i := 6) (oi := ({ dst := (some 49), op := (Op.build 66 #[(0, (Operand.tmp 45)), (1, (Operand.tmp 46)), (2, (Operand.tmp 48))]), type := 66, pos := "page.go:136", after := #[{ on := 2, ground := Ground.data }, { on := 3, ground := Ground.data }, { on := 5, ground := Ground.data }], guard := none } : Oper)) (v := .agg (c66 (⟨strOfNums (rTxt b s 32).1, mk63 (rId b (rTxt b s 32).2).1, (rNum b (rId b (rTxt b s 32).2).2 1 65536 5).1⟩ : S66)).toArray) rfl (by kernel_rfl) (by kernel_rfl) (by kernel_rfl) (by kernel_rfl) (by kernel_rfl) (fun _ _ _ h => h) (Or.inl ⟨by rfl, fun w_ hSw => run_op_build _ _ (by rfl) [(0, .string (strOfNums (rTxt b s 32).1)), (1, .agg (by8 (by63 (mk63 (rId b (rTxt b s 32).2).1))).toArray), (2, .int .i64 (rNum b (rId b (rTxt b s 32).2).2 1 65536 5).1)] (by rfl) (built_66 _ _ _)⟩) hHeld ?_
        try simp only [Act.put, List.setIfInBounds_toArray, List.set_cons_zero, List.set_cons_succ]
        refine wpAnyLast_ready (rs := [7]) (by kernel_rfl) (by simp) ?_
        refine AllReadyL.cons (o := ({ dst := (some 50), op := (Op.buildSlice 25 1 #[(0, (Operand.tmp 49))]), type := 25, pos := "page.go:136", after := #[{ on := 6, ground := Ground.data }], guard := none } : Oper)) rfl (by decide) (fun K hK => ?_) AllReadyL.nil
        refine st_run (by rfl) (op_s66 (⟨strOfNums (rTxt b s 32).1, mk63 (rId b (rTxt b s 32).2).1, (rNum b (rId b (rTxt b s 32).2).2 1 65536 5).1⟩ : S66) (x := .tmp 49) (by exact ⟨rfl, rfl⟩)) ?_; obtain ⟨w1, hw1⟩ : ∃ z, w_.alloc (.cells (c66 (⟨strOfNums (rTxt b s 32).1, mk63 (rId b (rTxt b s 32).2).1, (rNum b (rId b (rTxt b s 32).2).2 1 65536 5).1⟩ : S66)).toArray 66) = z := ⟨_, rfl⟩; obtain ⟨g1, hg1⟩ : ∃ z, w_.heap.size = z := ⟨_, rfl⟩; have HPn := Aside0.mk (HP.out.alloc (.cells (c66 (⟨strOfNums (rTxt b s 32).1, mk63 (rId b (rTxt b s 32).2).1, (rNum b (rId b (rTxt b s 32).2).2 1 65536 5).1⟩ : S66)).toArray 66 (0, 0))); rw [hw1, hg1] at HPn; rw [hw1, hg1]; clear HP hw1 hg1; have HP := HPn; clear HPn
        clear hHeld
        refine hK.out _ _ ?_ (fun hHeld => ?_)
        · (try dsimp only); first | exact ⟨blk_cell (HP.out.blk 2 rfl) 2, rangeB (HP.out.blk 1 rfl)⟩ | exact ⟨blk_cell (HP.out.blk 1 rfl) 2, rangeB (HP.out.blk 0 rfl)⟩
        clear hK K
        try simp only [Act.put, List.setIfInBounds_toArray, List.set_cons_zero, List.set_cons_succ]
        refine wpAnyLast_ready (rs := [8]) (by kernel_rfl) (by simp) ?_
        refine AllReadyL.cons (o := ({ dst := (some 51), op := (Op.call { callee := (Callee.builtin Builtin.append), args := #[(Operand.tmp 44), (Operand.tmp 50)], argTypes := #[25, 25] }), type := 25, pos := "page.go:136", after := #[{ on := 1, ground := Ground.data }, { on := 7, ground := Ground.data }, { on := 5, ground := Ground.chain }], guard := none } : Oper)) rfl (by decide) (fun K hK => ?_) AllReadyL.nil
        refine st_append plain_66 HP.out 7 (by rfl) _ _ 25 66 _ 56 (by rfl) Try.underlying25 info66 rfl (by decide) (by decide) (.slice Al ls.length cl) ls [(⟨strOfNums (rTxt b s 32).1, mk63 (rId b (rTxt b s 32).2).1, (rNum b (rId b (rTxt b s 32).2).2 1 65536 5).1⟩ : S66)] (some ⟨g1, 0, none⟩) 1 1 (by rfl) (by rfl) rfl (C_blk1 k66 (HP.out.blk 0 rfl) (k66_mk _ (⟨strOfNums (rTxt b s 32).1, mk63 (rId b (rTxt b s 32).2).1, (rNum b (rId b (rTxt b s 32).2).2 1 65536 5).1⟩ : S66))) (by have := HLN.out; omega) ?_; intro v2 w2 hpn; clear HP; have HP := Aside0.mk hpn; clear hpn; obtain ⟨A2, c2, rfl⟩ := Kd.R_slice (HP.out.row 7 rfl); simp only [List.length_append, List.length_cons, List.length_nil, Nat.zero_add] at HP; (try simp only [List.length_append, List.length_cons, List.length_nil, Nat.zero_add])
        clear hHeld
        refine hK.out _ _ ?_ (fun hHeld => ?_)
        · (try dsimp only); first | exact ⟨blk_cell (HP.out.blk 2 rfl) 2, rangeB (HP.out.blk 1 rfl)⟩ | exact ⟨blk_cell (HP.out.blk 1 rfl) 2, rangeB (HP.out.blk 0 rfl)⟩
        clear hK K
        try simp only [Act.put, List.setIfInBounds_toArray, List.set_cons_zero, List.set_cons_succ]
        refine wpAnyLast_take (i := 9) (oi := ({ dst := (some 52), op := (Op.fieldAddr 27 (Operand.tmp 5) 2), type := 0, pos := "page.go:136", after := #[{ on := 0, ground := Ground.phase }, { on := 1, ground := Ground.phase }, { on := 2, ground := Ground.phase }, { on := 3, ground := Ground.phase }, { on := 4, ground := Ground.phase }, { on := 5, ground := Ground.phase }, { on := 6, ground := Ground.phase }, { on := 7, ground := Ground.phase }, { on := 8, ground := Ground.phase }], guard := none } : Oper)) (v := ?_) rfl (by kernel_rfl) (by kernel_rfl) (by kernel_rfl) (by kernel_rfl) (by kernel_rfl) (fun _ _ _ h => h) (Or.inl ⟨by rfl, ?_⟩) hHeld ?_
        rotate_left
        · intro w_ hSw; (try dsimp only at hSw); go_simp; try (with_reducible rfl)
        try simp only [Act.put, List.setIfInBounds_toArray, List.set_cons_zero, List.set_cons_succ]
        refine wpAnyLast_ready (rs := [10]) (by kernel_rfl) (by simp) ?_
        refine AllReadyL.cons_last (o := ({ dst := none, op := (Op.store 25 (Operand.tmp 52) (Operand.tmp 51)), type := 0, pos := "page.go:136", after := #[{ on := 9, ground := Ground.data }, { on := 8, ground := Ground.data }, { on := 8, ground := Ground.chain }, { on := 0, ground := Ground.phase }, { on := 1, ground := Ground.phase }, { on := 2, ground := Ground.phase }, { on := 3, ground := Ground.phase }, { on := 4, ground := Ground.phase }, { on := 5, ground := Ground.phase }, { on := 6, ground := Ground.phase }, { on := 7, ground := Ground.phase }, { on := 8, ground := Ground.phase }], guard := none } : Oper)) rfl (by decide) (fun K hK => ?_) AllReadyL.nil
        have hc6 := blk_cell (HP.out.blk 2 rfl) 2; have hf6 := blk_frozen (HP.out.blk 2 rfl) 2; go_simp; have HPn := Aside0.mk (HP.out.setCell 2 rfl 2 (.slice A2 (ls.length + 1) c2)); clear HP hc6 hf6; have HP := HPn; clear HPn
        clear hHeld
        refine hK.out _ _ ?_
        clear hK K
        try simp only [Act.put, List.setIfInBounds_toArray, List.set_cons_zero, List.set_cons_succ]
        refine wpAnyLast_done (by kernel_rfl) ?_ _
        have HPn := Aside0.mk HP.out.drop1.drop1
        clear HP
        go_wp2_with fail
        go_roundg k
        case measure => have := HGK.out; omega
        case rel => exact ⟨n - 1, _, ps, ls ++ [(⟨strOfNums (rTxt b s 32).1, mk63 (rId b (rTxt b s 32).2).1, (rNum b (rId b (rTxt b s 32).2).2 1 65536 5).1⟩ : S66)], vp, .slice A2 (ls.length + 1) c2, rfl, ⟨by have h1 := HN.out; have h2 := HGK.out; omega⟩, ⟨by have h := HG.out; rw [HGK.out] at h; rw [← h, readL, if_pos HSE.out, if_neg HLV.out]⟩, ⟨by have h1 := HLN.out; have h2 := HGK.out; simp only [List.length_append, List.length_cons, List.length_nil]; omega⟩, HPn⟩
    · have d2 : (s.err == 0) = false := by simpa using he
      have d3 : decide (s.err = 0) = false := decide_eq_false he
      have HE := Aside0.mk (show items b = (s, ps, ls) from by rw [← HG.out, HGK.out, readL, if_neg he])
      clear HGK HN HG he
      go_wp2_with fail
      refine (c_end HP.out 1 g b s rfl).mono ?_; rintro e wg ⟨rfl, hpn⟩
      clear HP
      have HP := Aside0.mk hpn
      clear hpn
      by_cases hf : (rEnd b s).1 = 0
      · have k1 : ((rEnd b s).1 != 0) = false := by simpa using hf
        have k2 : ((rEnd b s).1 == 0) = true := by simpa using hf
        have k3 : decide ((rEnd b s).1 = 0) = true := decide_eq_true hf
        have HF := Aside0.mk hf
        obtain ⟨Ap, cp, rfl⟩ := Kd.R_slice (HP.out.row 4 rfl)
        obtain ⟨Al, cl, rfl⟩ := Kd.R_slice (HP.out.row 5 rfl)
        clear hf
        go_wp2_with (first | ((with_reducible refine gate_dst (N := 9) rfl ?_); refine ev_alloc rfl 30 rfl (.agg #[.int .i64 0, .int .i64 0]) (by kernel_rfl) ?_; intro g9 wh hge hg hb; have HPn := Aside0.mk (HP.out.newB hb hg hge); clear HP; have HP := HPn; clear HPn; clear hge hg hb) | ((with_reducible refine gate_store (t := 30) (p := 9) rfl ?_); refine ev_store rfl 30 (.tmp 9) (.tmp 54) rfl rfl _ rfl (cells := #[.int .i64 (rEnd b s).1, .int .i64 (rEnd b s).2]) rfl (HP.out.blk 0 rfl) (by kernel_rfl) rfl (by simp [Value.oneCell']) ?_; intro wi hg hgr; have HPn := Aside0.mk (HP.out.setB 0 rfl hgr hg); clear HP; have HP := HPn; clear HPn; clear hg hgr; have h9a : wi.cell? ⟨g9, 0, none⟩ = some (.int .i64 (rEnd b s).1) := blk_cell (HP.out.blk 0 rfl) 0; have h9b : wi.cell? ⟨g9, 1, none⟩ = some (.int .i64 (rEnd b s).2) := blk_cell (HP.out.blk 0 rfl) 1) | ((with_reducible refine gate_dst (N := 60) rfl ?_); refine ev_load rfl 27 (.tmp 5) rfl gp rfl (HP.out.blk 1 rfl) Try.underlying27 rfl (by kernel_rfl) ?_))
        have HCK := Aside0.mk (c_pcheck (hd1 b).1 Ap cp ps Al cl ls wi (Kd.R_reads' (HP.out.row 5 rfl)).2.2 (Kd.R_reads' (HP.out.row 6 rfl)).2.2 (Kd.R_reads' (HP.out.row 5 rfl)).2.1 (Kd.R_reads' (HP.out.row 6 rfl)).2.1 (by have := HLN.out; omega) (by have := HLN.out; omega))
        refine HCK.out.mono ?_; rintro e wj ⟨rfl, hb⟩
        have HPn := Aside0.mk (HP.out.call hb)
        clear HP hb HCK h9a h9b
        have HP := HPn
        clear HPn
        by_cases hp0 : pageS (hd1 b).1 ps ls = 0
        · have HRP := Aside0.mk (show readP b = (((hd1 b).1, ps, ls), (0, 0)) from by unfold readP; rw [HE.out, if_neg (by simpa using HF.out), if_neg (by simpa using hp0)])
          rw [hp0]
          clear hp0
          go_wp2_with (first | ((with_reducible refine gate_dst (N := 65) rfl ?_); refine ev_load rfl 27 (.tmp 5) rfl gp rfl (HP.out.blk 1 rfl) Try.underlying27 rfl (by kernel_rfl) ?_) | ((with_reducible refine gate_store (t := 27) (p := 2) rfl ?_); refine ev_store rfl 27 (.tmp 2) (.tmp 65) rfl rfl _ rfl (cells := #[.int .i64 (hd1 b).1, .slice Ap ps.length cp, .slice Al ls.length cl]) rfl (HP.out.blk 4 rfl) (by kernel_rfl) rfl (by simp [Value.oneCell']) ?_; intro wk hg hgr; have HPn := Aside0.mk (HP.out.setB 4 rfl hgr hg); clear HP; have HP := HPn; clear HPn; clear hg hgr) | ((with_reducible refine gate_store (t := 30) (p := 3) rfl ?_); refine ev_store rfl 30 (.tmp 3) (.tmp 66) rfl rfl _ rfl (cells := #[.int .i64 0, .int .i64 0]) rfl (HP.out.blk 3 rfl) (by kernel_rfl) rfl (by simp [Value.oneCell']) ?_; intro wl hg hgr; have HPn := Aside0.mk (HP.out.setB 3 rfl hgr hg); clear HP; have HP := HPn; clear HPn; clear hg hgr))
          refine bodyPost_ret (results_cells rfl _ _ rfl (HP.out.blk 4 rfl) Try.underlying27 rfl (by kernel_rfl) rfl (HP.out.blk 3 rfl) Try.underlying30 rfl (by kernel_rfl)) rfl ?_
          rw [HRP.out]
          exact ⟨_, _, rfl, Hp.dropN [_, _, _, _, _] HP.out⟩
        · have HRP := Aside0.mk (show readP b = ((0, [], []), (2, 0)) from by unfold readP; rw [HE.out, if_neg (by simpa using HF.out), if_pos (by simpa using hp0)])
          have m1 : (pageS (hd1 b).1 ps ls != 0) = true := by simpa using hp0
          have m2 : (pageS (hd1 b).1 ps ls == 0) = false := by simpa using hp0
          have m3 : decide (pageS (hd1 b).1 ps ls = 0) = false := decide_eq_false hp0
          clear hp0
          go_wp2_with (first | ((with_reducible refine gate_store (t := 27) (p := 2) rfl ?_); refine ev_store rfl 27 (.tmp 2) (.tmp 63) rfl rfl _ rfl (cells := #[.int .i64 0, .slice none 0 0, .slice none 0 0]) rfl (HP.out.blk 4 rfl) (by kernel_rfl) rfl (by simp [Value.oneCell']) ?_; intro wk hg hgr; have HPn := Aside0.mk (HP.out.setB 4 rfl hgr hg); clear HP; have HP := HPn; clear HPn; clear hg hgr) | ((with_reducible refine gate_store (t := 30) (p := 3) rfl ?_); refine ev_store rfl 30 (.tmp 3) (.tmp 64) rfl rfl _ rfl (cells := #[.int .i64 2, .int .i64 0]) rfl (HP.out.blk 3 rfl) (by kernel_rfl) rfl (by simp [Value.oneCell']) ?_; intro wl hg hgr; have HPn := Aside0.mk (HP.out.setB 3 rfl hgr hg); clear HP; have HP := HPn; clear HPn; clear hg hgr))
          refine bodyPost_ret (results_cells rfl _ _ rfl (HP.out.blk 4 rfl) Try.underlying27 rfl (by kernel_rfl) rfl (HP.out.blk 3 rfl) Try.underlying30 rfl (by kernel_rfl)) rfl ?_
          rw [HRP.out]
          exact ⟨.slice none 0 0, .slice none 0 0, rfl, ((Hp.dropN [_, _, _, _, _, _, _] HP.out).nilrow k66 66 (.slice none 0 0) (xs := []) (fun ok => Kd.R_nil _ _ _ _ _)).nilrow k55 55 (.slice none 0 0) (xs := []) (fun ok => Kd.R_nil _ _ _ _ _)⟩
      · have k1 : ((rEnd b s).1 != 0) = true := by simpa using hf
        have k2 : ((rEnd b s).1 == 0) = false := by simpa using hf
        have k3 : decide ((rEnd b s).1 = 0) = false := decide_eq_false hf
        have HRP := Aside0.mk (show readP b = ((0, [], []), rEnd b s) from by unfold readP; rw [HE.out, if_pos hf])
        clear hf
        go_upto_region 13 with (first | ((with_reducible refine gate_dst (N := 9) rfl ?_); refine ev_alloc rfl 30 rfl (.agg #[.int .i64 0, .int .i64 0]) (by kernel_rfl) ?_; intro g9 wh hge hg hb; have HPn := Aside0.mk (HP.out.newB hb hg hge); clear HP; have HP := HPn; clear HPn; clear hge hg hb) | ((with_reducible refine gate_store (t := 30) (p := 9) rfl ?_); refine ev_store rfl 30 (.tmp 9) (.tmp 54) rfl rfl _ rfl (cells := #[.int .i64 (rEnd b s).1, .int .i64 (rEnd b s).2]) rfl (HP.out.blk 0 rfl) (by kernel_rfl) rfl (by simp [Value.oneCell']) ?_; intro wi hg hgr; have HPn := Aside0.mk (HP.out.setB 0 rfl hgr hg); clear HP; have HP := HPn; clear HPn; clear hg hgr; have h9a : wi.cell? ⟨g9, 0, none⟩ = some (.int .i64 (rEnd b s).1) := blk_cell (HP.out.blk 0 rfl) 0; have h9b : wi.cell? ⟨g9, 1, none⟩ = some (.int .i64 (rEnd b s).2) := blk_cell (HP.out.blk 0 rfl) 1))
        clear h9a h9b
        refine held_named (S := (fun w' => w'.rangeAt g9 0 [.int .i64 (rEnd b s).1, .int .i64 (rEnd b s).2])) (by kernel_rfl) (fun wd13 hwd13 => ?_)
        have HPn := Aside0.mk (HP.out.drewN 1)
        rw [← World.drew_is_drewN, hwd13] at HPn
        clear HP hwd13
        have HP := HPn
        clear HPn
        refine ⟨by (try dsimp only); exact rangeB (HP.out.blk 0 rfl), fun hHeld => ?_⟩
        refine wpAnyH_take (i := 0) (oi := ({ dst := (some 58), op := (Op.build 27 #[]), type := 27, pos := "page.go:139", after := #[], guard := none } : Oper)) (v := ?_) rfl (by kernel_rfl) (by kernel_rfl) (by kernel_rfl) (fun _ _ _ h => h) (Or.inl ⟨by rfl, ?_⟩) hHeld ?_
        rotate_left
        · intro w_ hSw; (try dsimp only at hSw); go_simp; try (with_reducible rfl)
        try simp only [Act.put, List.setIfInBounds_toArray, List.set_cons_zero, List.set_cons_succ]
        refine wpAnyH_take (i := 1) (oi := ({ dst := (some 59), op := (Op.load 30 (Operand.tmp 9)), type := 30, pos := "page.go:139", after := #[{ on := 2, ground := (Ground.gcOnly Departure.lateStores) }], guard := none } : Oper)) (v := _) rfl (by kernel_rfl) (by kernel_rfl) (by kernel_rfl) (fun _ _ _ h => h) (yieldsIf_load_mid (by rfl) _ _ rfl _ _ rfl _ _ (fun w hw => hw) Try.underlying30 rfl (by kernel_rfl)) hHeld ?_
        try simp only [Act.put, List.setIfInBounds_toArray, List.set_cons_zero, List.set_cons_succ]
        refine wpAnyH_ready (rs := [2]) (by kernel_rfl) (by simp) ?_
        refine AllReadyH.cons (o := ({ dst := none, op := (Op.store 27 (Operand.tmp 2) (Operand.tmp 58)), type := 0, pos := "page.go:139", after := #[{ on := 0, ground := Ground.data }, { on := 0, ground := Ground.phase }, { on := 1, ground := (Ground.textOnly Departure.lateStores) }], guard := none } : Oper)) rfl (fun K hK => ?_) AllReadyH.nil
        refine st_store (by rfl) 27 _ _ (by rfl) rfl r2 (by rfl) (cells := #[.int .i64 0, .slice none 0 0, .slice none 0 0]) (by rfl) (HP.out.blk 4 rfl) (by kernel_rfl) rfl (by simp [Value.oneCell']) ?_; intro wm hg hgr; have HPn := Aside0.mk (HP.out.setB 4 rfl hgr hg); clear HP hg hgr; have HP := HPn; clear HPn
        clear hHeld
        refine hK.out _ _ ?_ (fun hHeld => ?_)
        · (try dsimp only); exact rangeB (HP.out.blk 0 rfl)
        clear hK K
        try simp only [Act.put, List.setIfInBounds_toArray, List.set_cons_zero, List.set_cons_succ]
        refine wpAnyH_ready (rs := [3]) (by kernel_rfl) (by simp) ?_
        refine AllReadyH.cons (o := ({ dst := none, op := (Op.store 30 (Operand.tmp 3) (Operand.tmp 59)), type := 0, pos := "page.go:139", after := #[{ on := 1, ground := Ground.data }, { on := 2, ground := Ground.chain }, { on := 0, ground := Ground.phase }, { on := 1, ground := Ground.phase }, { on := 2, ground := Ground.phase }], guard := none } : Oper)) rfl (fun K hK => ?_) AllReadyH.nil
        refine st_store (by rfl) 30 _ _ (by rfl) rfl r3 (by rfl) (cells := #[.int .i64 (rEnd b s).1, .int .i64 (rEnd b s).2]) (by rfl) (HP.out.blk 3 rfl) (by kernel_rfl) rfl (by simp [Value.oneCell']) ?_; intro wn hg hgr; have HPn := Aside0.mk (HP.out.setB 3 rfl hgr hg); clear HP hg hgr; have HP := HPn; clear HPn
        clear hHeld
        refine hK.out _ _ ?_ (fun hHeld => ?_)
        · (try dsimp only); exact rangeB (HP.out.blk 0 rfl)
        clear hK K
        try simp only [Act.put, List.setIfInBounds_toArray, List.set_cons_zero, List.set_cons_succ]
        refine wpAnyH_done (by kernel_rfl) ?_ _
        go_wp2_with fail
        refine bodyPost_ret (results_cells rfl _ _ rfl (HP.out.blk 4 rfl) Try.underlying27 rfl (by kernel_rfl) rfl (HP.out.blk 3 rfl) Try.underlying30 rfl (by kernel_rfl)) rfl ?_
        rw [HRP.out]
        exact ⟨.slice none 0 0, .slice none 0 0, rfl, ((Hp.dropN [_, _, _, _, _, _, _] HP.out).nilrow k66 66 (.slice none 0 0) (xs := []) (fun ok => Kd.R_nil _ _ _ _ _)).nilrow k55 55 (.slice none 0 0) (xs := []) (fun ok => Kd.R_nil _ _ _ _ _)⟩
end Go.Proofs.Ytlgnfbgjdkbfoaa.Pg
