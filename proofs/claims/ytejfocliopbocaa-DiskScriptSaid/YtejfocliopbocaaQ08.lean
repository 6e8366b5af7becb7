import Derived.Test.YtejfocliopbocaaQ07
import Derived.Test.YtejfocliopbocaaQ04
import Derived.Test.YtejfocliopbocaaQ06
namespace Go.Proofs.Ytejfocliopbocaa.Su
open Go.Proofs.Ytejfocliopbocaa.H
open Go.RowKit Go.Proofs.Ytejfocliopbocaa.XD Go.Proofs.YtejfocliopbocaaW.PrintWords Go.Proofs.YtejfocliopbocaaW.PrintLast Go.Proofs.YtejfocliopbocaaW.PrintMore Go.Proofs.YtejfocliopbocaaXe Go.Proofs.YtejfocliopbocaaXs
set_option linter.unusedVariables false
set_option linter.unusedSimpArgs false
attribute [local go_sem ↓] Go.wp_at_zero Go.wp_at_succ
open Go.Proofs.Ytejfocliopbocaa.D hiding c_len c_new c_write
def lastF (n : Int) (a : Option Pt) (l : List Pt) : Option Pt := l.foldl (fun a p => if p.n = n then some p else a) a
theorem lastF_none (n : Int) : ∀ (l : List Pt) (a : Option Pt), (∀ q ∈ l, q.n ≠ n) → lastF n a l = a
  | [], a, _ => rfl
  | x :: l, a, h => by
    show lastF n (if x.n = n then some x else a) l = a
    rw [if_neg (h x List.mem_cons_self)]
    exact lastF_none n l a (fun q hq => h q (List.mem_cons_of_mem _ hq))
theorem lastF_ne (k : Int) (p : Pt) (h : p.n ≠ k) : ∀ (l : List Pt) (a : Option Pt), lastF k a (putP l p) = lastF k a l
  | [], a => by
    show (if p.n = k then some p else a) = a
    rw [if_neg h]
  | x :: l, a => by
    rw [putP]
    split
    · rename_i e
      show lastF k (if x.n = k then _ else a) l = lastF k (if x.n = k then some x else a) l
      rw [if_neg (by rw [e]; exact h), if_neg (by rw [e]; exact h)]
    · show lastF k (if x.n = k then some x else a) (putP l p) = lastF k (if x.n = k then some x else a) l
      exact lastF_ne k p h l _
def uniqP (l : List Pt) : Prop := (l.map Pt.n).Nodup
theorem lastF_eq (p : Pt) : ∀ (l : List Pt) (a : Option Pt), uniqP l → ∃ q, lastF p.n a (putP l p) = some q ∧ q.b = p.b
  | [], a, _ => ⟨p, by show (if p.n = p.n then some p else a) = some p; rw [if_pos rfl], rfl⟩
  | x :: l, a, h => by
    have h1 : x.n ∉ l.map Pt.n := (List.nodup_cons.1 h).1
    have h2 : uniqP l := (List.nodup_cons.1 h).2
    rw [putP]
    split
    · rename_i e
      refine ⟨⟨x.n, p.v, p.b⟩, ?_, rfl⟩
      show lastF p.n (if x.n = p.n then some ⟨x.n, p.v, p.b⟩ else a) l = _
      rw [if_pos e, lastF_none p.n l _ (fun q hq e2 => h1 (by rw [e, ← e2]; exact List.mem_map_of_mem hq))]
    · rename_i e
      show ∃ q, lastF p.n (if x.n = p.n then some x else a) (putP l p) = some q ∧ q.b = p.b
      rw [if_neg e]
      exact lastF_eq p l a h2
theorem putP_map : ∀ (l : List Pt) (p : Pt), (putP l p).map Pt.n = l.map Pt.n ∨ ((putP l p).map Pt.n = l.map Pt.n ++ [p.n] ∧ p.n ∉ l.map Pt.n)
  | [], p => .inr ⟨rfl, by simp⟩
  | x :: l, p => by
    rw [putP]
    split
    · exact .inl rfl
    · rename_i e
      rcases putP_map l p with h | ⟨h, h2⟩
      · exact .inl (by rw [List.map_cons, h]; rfl)
      · refine .inr ⟨by rw [List.map_cons, h]; rfl, ?_⟩
        rw [List.map_cons, List.mem_cons]
        rintro (h3 | h3)
        · exact e h3.symm
        · exact h2 h3
theorem uniq_put {l : List Pt} (p : Pt) (h : uniqP l) : uniqP (putP l p) := by
  unfold uniqP at h ⊢
  rcases putP_map l p with h1 | ⟨h1, h2⟩
  · rw [h1]; exact h
  · rw [h1, List.nodup_append]
    refine ⟨h, by simp, fun a ha b hb => ?_⟩
    rw [List.mem_singleton.1 hb]
    rintro rfl
    exact h2 ha
def firmB (l : List Pt) (n : Int) : List Int := match lastP l n with | some p => p.b | none => s64'
theorem firmB_put {l : List Pt} (p : Pt) (h : uniqP l) : firmB (putP l p) = put1 (firmB l) p.n p.b := by
  funext k
  unfold firmB put1
  by_cases e : p.n = k
  · subst e
    rw [if_pos rfl]
    obtain ⟨q, h1, h2⟩ := lastF_eq p l none h
    rw [show lastP (putP l p) p.n = some q from h1]
    exact h2
  · rw [if_neg e, show lastP (putP l p) k = lastP l k from lastF_ne k p e l none]
theorem put1_self (f : Int → List Int) (n : Int) (b : List Int) : put1 f n (b.take 0 ++ (f n).drop 0) = f := by
  funext k
  unfold put1
  rw [List.take_zero, List.nil_append, List.drop_zero]
  split
  · rename_i e; rw [e]
  · rfl
def nbP (l : List Pt) : List (Int × List Int) := l.map fun p => (p.n, p.b)
theorem crashG_cons {keep : List Bool} {l : List Pt} {j : Nat} {p : Pt} (hj : l[j]? = some p) (torn : Int) (f : Int → List Int) : crashG keep (nbP (l.drop j)) j torn f = if keep[j]? = some true then crashG keep (nbP (l.drop (j + 1))) (j + 1) torn (put1 f p.n p.b) else crashG keep (nbP (l.drop (j + 1))) (j + 1) 0 (put1 f p.n (p.b.take torn.toNat ++ (f p.n).drop torn.toNat)) := by
  obtain ⟨h1, h2⟩ := List.getElem?_eq_some_iff.1 hj
  rw [List.drop_eq_getElem_cons h1, h2]
  rfl
/-- a row of bytes joins the pool -/
theorem Hp.adopt {w0 w : World} {Rs : List Res} {v : Value} {b : List Int} (h : Hp w0 w (.row (Kd.int .u8) 5 w0.heap.size v b :: Rs)) (i g : Nat) (R : RS) (ex : List Pt) (hi : Rs[i]? = some (rRef w0.heap.size g R ex)) (n : Int) (hl : b.length = 64) (hB : Bytes b) : Hp w0 w (Rs.set i (rRef w0.heap.size g R (⟨n, v, b⟩ :: ex))) := by
  have hil : i < Rs.length := (List.getElem?_eq_some_iff.1 hi).1
  obtain ⟨v1, v2, ps, hm, HP1⟩ := Hp.openR h (i + 1) g R ex hi
  have h2 := Hp.perm HP1 (Rs' := .row (Kd.int .u8) 5 w0.heap.size v b :: .blk g (.cells (refC R v1 v2).toArray 56 (0, 0)) :: .row KPt 77 w0.heap.size v1 R.firm :: .row KPt 77 w0.heap.size v2 R.soft :: .all (poolL w0.heap.size ps) :: Rs.set i .none) (List.perm_middle (l₁ := [_, _, _, _]) (l₂ := Rs.set i .none))
  have h3 := Hp.join h2 3 rfl
  refine Hp.closeR R (⟨n, v, b⟩ :: ex) (ps := (v, b) :: ps) (fun p hp => ?_) hil h3
  have hp2 : p ∈ R.firm ++ (R.soft ++ ex) ∨ p = ⟨n, v, b⟩ := by
    simp only [List.mem_append, List.mem_cons] at hp ⊢
    rcases hp with h | h | h | h
    · exact .inl (.inl h)
    · exact .inl (.inr (.inl h))
    · exact .inr h
    · exact .inl (.inr (.inr h))
  rcases hp2 with h4 | rfl
  · obtain ⟨k1, k2, k3⟩ := hm p h4
    exact ⟨List.mem_cons_of_mem _ k1, k2, k3⟩
  · exact ⟨List.mem_cons_self, hl, hB⟩
theorem pool_read {w0 w : World} {Rs : List Res} (h : Hp w0 w Rs) (i g : Nat) (R : RS) (ex : List Pt) (hi : Rs[i]? = some (rRef w0.heap.size g R ex)) (p : Pt) (hp : p ∈ R.firm ++ (R.soft ++ ex)) : ∃ bA oA c, p.v = .slice (some ⟨bA, oA, none⟩) 64 c ∧ 64 ≤ c ∧ p.b.length = 64 ∧ Bytes p.b ∧ ∀ w'' (Rs2 : List Res) (R2 : RS) (ex2 : List Pt) (i2 : Nat), Hp w0 w'' Rs2 → Rs2[i2]? = some (rRef w0.heap.size g R2 ex2) → p ∈ R2.firm ++ (R2.soft ++ ex2) → Kd.C (Kd.int .u8) w'' (some ⟨bA, oA, none⟩) 64 p.b := by
  obtain ⟨v1, v2, ps, hm, HP1⟩ := Hp.openR h i g R ex hi
  obtain ⟨A, c, e1, e2, e3⟩ := pool_C HP1 3 rfl (hm p hp)
  obtain ⟨bA, oA, rfl⟩ := C_addr e3 (by decide) (C_len e3)
  refine ⟨bA, oA, c, e1, e2, (hm p hp).2.1, (hm p hp).2.2, fun w'' Rs2 R2 ex2 i2 h2 hi2 hp2 => ?_⟩
  obtain ⟨v1', v2', ps', hm', HP1'⟩ := Hp.openR h2 i2 g R2 ex2 hi2
  obtain ⟨A', c', k1, k2, k3⟩ := pool_C HP1' 3 rfl (hm' p hp2)
  rw [e1] at k1
  cases k1
  exact k3
theorem firmB_ok {l : List Pt} (h : ∀ p ∈ l, p.b.length = 64 ∧ Bytes p.b) (n : Int) : (firmB l n).length = 64 ∧ Bytes (firmB l n) := by
  unfold firmB
  cases e : lastP l n with
  | none => exact ⟨rfl, s64'_b⟩
  | some p => exact h p (lastP_mem l n p e).1
set_option maxHeartbeats 8000000 in
set_option maxRecDepth 100000 in
theorem c_rcrashE {w0 w : World} {Rs : List Res} (HP0 : Hp w0 w Rs) (i g : Nat) (R : RS) (ex : List Pt) (hi : Rs[i]? = some (rRef w0.heap.size g R ex)) (kv : Value) (torn : Int) (h0 : torn < 0 ∨ 63 < torn) :
    Calls Try.prog 42 #[.pointer (some ⟨g, 0, none⟩), kv, .int .i64 torn] w fun e w' => e = .returned (.int .i64 2) ∧ w' = w := by
  clear HP0 hi
  by_cases h1 : torn < 0
  · have d1 : decide (torn < 0) = true := decide_eq_true h1
    clear h0 h1
    go_enter Try.func42, Try.ntmps42
    go_wp2_with fail
    go_ret
    exact ⟨rfl, rfl⟩
  · have d1 : decide (torn < 0) = false := decide_eq_false h1
    have d2 : decide (torn > 63) = true := decide_eq_true (by omega)
    clear h0 h1
    go_enter Try.func42, Try.ntmps42
    go_wp2_with fail
    go_ret
    exact ⟨rfl, rfl⟩
set_option maxHeartbeats 8000000 in
set_option maxRecDepth 100000 in
theorem c_rcrash {w0 w : World} {Rs : List Res} (HP0 : Hp w0 w Rs) (i g : Nat) (R : RS) (ex : List Pt) (hi : Rs[i]? = some (rRef w0.heap.size g R ex)) (hls : R.soft.length ≤ 100000) (hlf : R.firm.length ≤ 100000) (hu : uniqP R.firm) (Ak : Option Addr) (ck : Nat) (keep : List Bool) (hkl : keep.length ≤ 9223372036854775807) (hB : ∀ w' : World, Below w0.heap.size w0 w' → Kd.C Kd.bool w' Ak keep.length keep) (torn : Int) (ht : 0 ≤ torn ∧ torn ≤ 63) :
    Calls Try.prog 42 #[.pointer (some ⟨g, 0, none⟩), .slice Ak keep.length ck, .int .i64 torn] w fun e w' => e = .returned (.int .i64 0) ∧ ∃ F ex2, uniqP F ∧ F.length ≤ R.firm.length + R.soft.length ∧ firmB F = crashG keep (nbP R.soft) 0 torn (firmB R.firm) ∧ Hp w0 w' (Rs.set i (rRef w0.heap.size g { R with firm := F, soft := [], has := false, left := 0, out := false } ex2)) := by
  have HLL := Aside0.mk (And.intro hls hlf)
  have HU := Aside0.mk hu
  have HB := Aside0.mk hB
  obtain ⟨v1, v2, ps, hm, HP1⟩ := Hp.openR HP0 i g R ex hi
  have hil : i < Rs.length := (List.getElem?_eq_some_iff.1 hi).1
  have HP := Aside0.mk HP1
  have HM := Aside0.mk hm
  have HI := Aside0.mk hil
  clear HP0 HP1 hm hil
  obtain ⟨A2, c2, rfl⟩ := Kd.R_slice (HP.out.row 2 rfl)
  have d1 : decide (torn < 0) = false := decide_eq_false (by omega)
  have d2 : decide (torn > 63) = false := decide_eq_false (by omega)
  have HT := Aside0.mk ht
  have hc2 : w.cell? ⟨g, 2, none⟩ = some (.slice A2 R.soft.length c2) := blk_cell (HP.out.blk 0 rfl) 2
  have hf2 := blk_frozen (HP.out.blk 0 rfl) 2
  have HPs := Aside0.mk (show Hp w0 (w.setCell ⟨g, 2, none⟩ (.slice none 0 0)) (.row KPt 77 w0.heap.size (.slice A2 R.soft.length c2) R.soft :: Rs.set i (rRef w0.heap.size g { R with soft := [] } (R.soft ++ ex))) from by
    have h0 := HP.out.setCell 0 rfl 2 (.slice none 0 0)
    have h1 := Hp.nilrow h0 KPt 77 (.slice none 0 0) (fun ok => Kd.R_nil KPt 77 _ _ ok)
    have p1 : ∀ (a b c d e : Res) (l : List Res), List.Perm (a :: b :: c :: d :: e :: l) (b :: c :: a :: e :: d :: l) := fun a b c d e l =>
      ((List.Perm.swap b a (c :: d :: e :: l)).trans (List.Perm.cons b (List.Perm.swap c a (d :: e :: l)))).trans (List.Perm.cons b (List.Perm.cons c (List.Perm.cons a (List.Perm.swap e d l))))
    have h2 := Hp.perm h1 (Rs' := .blk g (.cells (refC { R with soft := [] } v1 (.slice none 0 0)).toArray 56 (0, 0)) :: .row KPt 77 w0.heap.size v1 R.firm :: .row KPt 77 w0.heap.size (.slice none 0 0) [] :: .all (poolL w0.heap.size ps) :: (.row KPt 77 w0.heap.size (.slice A2 R.soft.length c2) R.soft :: Rs).set (i + 1) .none) (p1 _ _ _ _ _ _)
    exact Hp.closeR (i := i + 1) { R with soft := [] } (R.soft ++ ex) (fun p hp => HM.out p (by
      simp only [List.mem_append, List.not_mem_nil, false_or] at hp ⊢
      exact hp)) (by rw [List.length_cons]; have := HI.out; omega) h2)
  clear hi hls hlf hu hB ht HP HM
  go_enter Try.func42, Try.ntmps42
  go_wp2_with fail
  clear hc2 hf2
  go_loopg [2, 8, 9] R.soft.length (fun kq vt v8 v9 w' => ∃ (j : Nat) (x t : Int) (F ex2 : List Pt), vt = .int .i64 t ∧ v8 = .int .i64 x ∧ Aside0 (x = (j : Int)) ∧ Aside0 (kq + j = R.soft.length) ∧ Aside0 (0 ≤ t ∧ t ≤ 63) ∧ Aside0 (uniqP F ∧ F.length ≤ R.firm.length + j ∧ (∀ p ∈ R.soft, p ∈ ex2) ∧ crashG keep (nbP (R.soft.drop j)) j t (firmB F) = crashG keep (nbP R.soft) 0 torn (firmB R.firm)) ∧ Aside0 (Hp w0 w' (.row KPt 77 w0.heap.size (.slice A2 R.soft.length c2) R.soft :: Rs.set i (rRef w0.heap.size g { R with firm := F, soft := [] } ex2))))
  case atStart => exact ⟨0, 0, torn, R.firm, R.soft ++ ex, rfl, rfl, ⟨rfl⟩, ⟨rfl⟩, HT, ⟨HU.out, Nat.le_refl _, fun p hp => List.mem_append_left _ hp, rfl⟩, HPs⟩
  clear HPs HU HT
  obtain ⟨j, x, t, F, ex2, rfl, rfl, HX, HK, HT, HF, HP⟩ := hrel
  have hx := HX.out
  have hk := HK.out
  have hll := HLL.out
  by_cases c1_ : j < R.soft.length
  · have d3 : decide (x < (R.soft.length : Int)) = true := decide_eq_true (by omega)
    have ex_ := i64k (x := x + 1) rfl (by omega)
    obtain ⟨p, hp⟩ : ∃ p, R.soft[j]? = some p := ⟨_, List.getElem?_eq_getElem c1_⟩
    obtain ⟨bA, oA, rfl⟩ := C_addrK (by decide) (Kd.R_reads' (HP.out.row 0 rfl)).2.2 (show 0 < R.soft.length by omega)
    have hxj : x.toNat = j := by omega
    have HC := Aside0.mk (fun (w' : World) (Rs2 : List Res) (k : Nat) (h : Hp w0 w' Rs2) (hk : Rs2[k]? = some (.row KPt 77 w0.heap.size (.slice (some ⟨bA, oA, none⟩) R.soft.length c2) R.soft)) => cellsP (Kd.R_reads' (h.row k hk)).2.2 hp)
    have p0 : 0 ≤ x := by omega
    have q0 : x < (R.soft.length : Int) := by omega
    rw [← hxj] at HC
    have hpm : p ∈ R.soft := by obtain ⟨h1, h2⟩ := List.getElem?_eq_some_iff.1 hp; rw [← h2]; exact List.getElem_mem h1
    have hpx : p ∈ ex2 := HF.out.2.2.1 p hpm
    have HPX := Aside0.mk hpx
    obtain ⟨bp, op, cp, epv, hcp, hbl, hbb, hrd⟩ := pool_read HP.out (i + 1) g { R with firm := F, soft := [] } ex2 (set_get (α := Res) (l := Rs) _ HI.out) p (List.mem_append_right _ (List.mem_append_right _ hpx))
    have HPB := Aside0.mk (And.intro hcp (And.intro hbl hbb))
    have HRD := Aside0.mk hrd
    have HG := Aside0.mk (crashG_cons (keep := keep) hp t (firmB F))
    have HJ := Aside0.mk (And.intro c1_ (And.intro hxj hp))
    have CF := Aside0.mk (fun (q : Pt) (w : World) (Rs2 : List Res) (k : Nat) (ex3 : List Pt) (h : Hp w0 w Rs2) (hk : Rs2[k]? = some (rRef w0.heap.size g { R with firm := F, soft := [] } ex3)) (hq : q ∈ ex3) => c_rfirm h k g { R with firm := F, soft := [] } ex3 hk (by show F.length ≤ 1000000; have := HF.out.2.1; have := HLL.out; omega) q (List.mem_append_right _ (List.mem_append_right _ hq)))
    have CN := Aside0.mk (fun (n : Int) (w : World) (Rs2 : List Res) (k : Nat) (h : Hp w0 w Rs2) (hk : Rs2[k]? = some (rRef w0.heap.size g { R with firm := F, soft := [] } ex2)) => c_rnow h k g { R with firm := F, soft := [] } ex2 hk (by show ([] : List Pt).length ≤ 1000000; decide) (by show F.length ≤ 1000000; have := HF.out.2.1; have := HLL.out; omega) n)
    have HSG := Aside0.mk (set_get (α := Res) (l := Rs) (rRef w0.heap.size g { R with firm := F, soft := [] } ex2) HI.out)
    obtain ⟨pn, hpn_⟩ : ∃ z, p.n = z := ⟨_, rfl⟩
    obtain ⟨pv, hpv_⟩ : ∃ z, p.v = z := ⟨_, rfl⟩
    have HPN := Aside0.mk (And.intro hpn_ hpv_)
    rw [hpn_] at HC HG
    rw [hpv_] at HC epv
    subst epv
    have hkl2 : keep.length ≤ 9223372036854775807 := hkl
    have hcns := HC.out _ _ 0 HP.out rfl
    obtain ⟨hcn, hcv⟩ := hcns
    by_cases ck1 : j < keep.length
    · have dk : decide (x < (keep.length : Int)) = true := decide_eq_true (by omega)
      have qk : x < (keep.length : Int) := by omega
      obtain ⟨ak, hak, hck⟩ := Kd.at_bool (HB.out wr HP.out.below) x p0 qk
      subst hak
      have hkv : keep[j]? = some (Go.Proofs.YtejfocliopbocaaW.PrintWords.rdOf false keep x) := by
        unfold Go.Proofs.YtejfocliopbocaaW.PrintWords.rdOf
        rw [hxj, List.getD_eq_getElem?_getD, List.getElem?_eq_getElem ck1]
        rfl
      obtain ⟨kb, hkb⟩ : ∃ z, Go.Proofs.YtejfocliopbocaaW.PrintWords.rdOf false keep x = z := ⟨_, rfl⟩
      rw [hkb] at hck hkv
      clear hx hk hll c1_ hp hxj hpm hpx hcp hbl hbb hrd hpn_ hpv_ ck1 hkb hkl hkl2
      cases kb with
      | true =>
        have HGG := Aside0.mk (show crashG keep (nbP (R.soft.drop (j + 1))) (j + 1) t (firmB (putP F p)) = crashG keep (nbP R.soft) 0 torn (firmB R.firm) from by
          rw [← HF.out.2.2.2, HG.out, if_pos hkv, firmB_put p HF.out.1, HPN.out.1])
        clear hkv
        go_wp2_with fail
        have CC := Aside0.mk (CF.out p _ _ (i + 1) ex2 HP.out HSG.out HPX.out)
        rw [HPN.out.1, HPN.out.2] at CC
        refine CC.out.mono ?_; rintro e w6 ⟨rfl, hpn⟩
        have HPn := Aside0.mk (show Hp w0 w6 (.row KPt 77 w0.heap.size (.slice (some ⟨bA, oA, none⟩) R.soft.length c2) R.soft :: Rs.set i (rRef w0.heap.size g { R with firm := putP F p, soft := [] } ex2)) from by
          have h : Hp w0 w6 (_ :: (Rs.set i _).set i (rRef w0.heap.size g { R with firm := putP F p, soft := [] } ex2)) := hpn
          rw [List.set_set] at h
          exact h)
        clear hpn CC hcn hcv hck
        go_wp2_with fail
        go_roundg (gk - 1)
        case measure => have := HK.out; have := HJ.out.1; omega
        case rel => exact ⟨j + 1, x + 1, t, putP F p, ex2, rfl, rfl, ⟨by have := HX.out; omega⟩, ⟨by have := HK.out; have := HJ.out.1; omega⟩, HT, ⟨uniq_put p HF.out.1, by have := putP_len F p; have := HF.out.2.1; omega, HF.out.2.2.1, HGG.out⟩, HPn⟩
      | false =>
        have HNK := Aside0.mk (show ¬ keep[j]? = some true from by rw [hkv]; decide)
        clear hkv
        by_cases ct : 0 < t
        · have dt : decide (t > 0) = true := decide_eq_true ct
          have ht := HT.out
          have hrunA : ∀ w : World, (Instr.slice 27 (.slice (some ⟨bp, op, none⟩) 64 cp) none (some (.int .i64 t)) none).run Try.prog w = .ok (.slice (some ⟨bp, op, none⟩) t.toNat cp) w := fun w => by
            have h := D.to8 (some ⟨bp, op, none⟩) cp p.b t.toNat (by rw [HPB.out.2.1]; omega) (by rw [HPB.out.2.1]; exact HPB.out.1) t (by omega) w
            rwa [HPB.out.2.1] at h
          have HTN := Aside0.mk (show t.toNat ≤ 63 ∧ ((t.toNat : Nat) : Int) = t by omega)
          have q63 : t ≤ 64 := by omega
          have q0t : 0 ≤ t := by omega
          have HFB := Aside0.mk (show (firmB F pn).length = 64 ∧ Bytes (firmB F pn) from by
            obtain ⟨u1, u2, qs, hm, _⟩ := Hp.openR HP.out (i + 1) g { R with firm := F, soft := [] } ex2 HSG.out
            exact firmB_ok (fun p hp => ⟨(hm p (List.mem_append_left _ hp)).2.1, (hm p (List.mem_append_left _ hp)).2.2⟩) pn)
          clear ct ht hcn hcv
          go_wp2_with (first | ((with_reducible refine gate_dst (N := 47) rfl ?_); refine ev_run rfl (w1 := wr.alloc (.cells #[] 5 (0, 0))) (v := .slice (some ⟨wr.heap.size, 0, none⟩) 0 0) ?hrLa ?_; (case hrLa => first | (go_simp; done) | (go_simp; rfl)); have HPn := Aside0.mk (show Hp w0 (wr.alloc (.cells #[] 5 (0, 0))) (.row (Kd.int .u8) 5 w0.heap.size (.slice (some ⟨wr.heap.size, 0, none⟩) 0 0) [] :: _) from HP.out.lit 5 (d := Kd.int .u8) (xs := []) (inner := []) (reps_ints .u8 _ _ []) (by decide)); clear HP; have HP := HPn; clear HPn; obtain ⟨w7, hw7⟩ : ∃ z, wr.alloc (.cells #[] 5 (0, 0)) = z := ⟨_, rfl⟩; obtain ⟨A7, hA7⟩ : ∃ z : Option Addr, some ⟨wr.heap.size, 0, none⟩ = z := ⟨_, rfl⟩; rw [hw7, hA7] at HP; rw [hw7, hA7]; clear hw7 hA7; obtain ⟨hcn, hcv⟩ := HC.out _ _ 1 HP.out rfl))
          refine (CN.out pn _ _ (i + 2) HP.out HSG.out).mono ?_; rintro e w8 ⟨bN, oN, cN, X, rfl, hcN, hpn, hCN⟩
          clear HP
          have HP := Aside0.mk hpn
          have HCN := Aside0.mk (show Kd.C (Kd.int .u8) w8 (some ⟨bN, oN, none⟩) 64 (firmB F pn) from hCN w8 hpn)
          obtain ⟨nb, hnb⟩ : ∃ z, firmB F pn = z := ⟨_, rfl⟩
          have HNB := Aside0.mk hnb
          rw [hnb] at HCN HFB
          clear hpn hCN hcN hcn hcv hnb
          go_wp2_with (first | ((with_reducible refine gate_dst (N := 55) rfl ?_); refine ev_append (plain_int .u8) HP.out 1 rfl (.tmp 47) (.tmp 54) 27 5 (.int .u8 0) 1 rfl Try.underlying27 info5 rfl (by decide) (by decide) (.slice A7 0 0) [] nb (some ⟨bN, oN, none⟩) 64 cN rfl rfl rfl HCN.out (by decide) ?_; intro v_b wb hpn; clear HP; have HP := Aside0.mk hpn.drop1; clear hpn; obtain ⟨A_b, c_b, rfl⟩ := Kd.R_slice (HP.out.row 0 rfl); rw [List.nil_append] at HP; rw [List.nil_append, HFB.out.1]; rw [HFB.out.1] at HP))
          have HPn := Aside0.mk (show Hp w0 wb (.row (Kd.int .u8) 5 w0.heap.size (.slice A_b 64 c_b) nb :: .row KPt 77 w0.heap.size (.slice (some ⟨bA, oA, none⟩) R.soft.length c2) R.soft :: Rs.set i (rRef w0.heap.size g { R with firm := F, soft := [] } ex2)) from HP.out)
          clear HP HCN
          have HP := HPn
          clear HPn
          have hR0 := Kd.R_reads' (HP.out.row 0 rfl)
          obtain ⟨A9, m9, hm9, hl9, hc9, hrunB, hC9⟩ := D.from8 A_b c_b nb t.toNat (by rw [HFB.out.1]; have := HTN.out; omega) (by rw [HFB.out.1]; exact hR0.2.1) t (by have := HTN.out; omega)
          rw [HFB.out.1] at hrunB hC9 hl9
          have H9 := Aside0.mk (And.intro hm9 (And.intro hl9 hC9))
          clear hR0 hm9 hl9 hc9 hC9
          refine held_named (S := (fun w' => w'.cell? ⟨bA, oA + x.toNat * 2, none⟩ = some (.int .i64 pn) ∧ w'.cell? ⟨bA, oA + x.toNat * 2 + 1, none⟩ = some (.slice (some ⟨bp, op, none⟩) 64 cp))) (by kernel_rfl) (fun wd0 hwd0 => ?_)
          have HPn := Aside0.mk (HP.out.drewN 1)
          rw [← World.drew_is_drewN, hwd0] at HPn
          clear HP hwd0
          have HP := HPn
          clear HPn
          refine ⟨by (try dsimp only); first | exact HC.out _ _ 1 HP.out rfl | exact HC.out _ _ 2 HP.out rfl, fun hHeld => ?_⟩
          refine wpAnyH_take (i := 0) (oi := ({ dst := (some 56), op := (Op.move (Operand.tmp 0)), type := 50, pos := "ref.go:139", after := #[], guard := none } : Oper)) (v := ?_) rfl (by kernel_rfl) (by kernel_rfl) (by kernel_rfl) (fun _ _ _ h => h) (Or.inl ⟨by rfl, ?_⟩) hHeld ?_
          rotate_left
          · intro w_ hSw; (try dsimp only at hSw); go_simp; try (with_reducible rfl)
          try simp only [Act.put, List.setIfInBounds_toArray, List.set_cons_zero, List.set_cons_succ]
          refine wpAnyH_take (i := 1) (oi := ({ dst := (some 57), op := (Op.move (Operand.tmp 7)), type := 54, pos := "ref.go:139", after := #[], guard := none } : Oper)) (v := ?_) rfl (by kernel_rfl) (by kernel_rfl) (by kernel_rfl) (fun _ _ _ h => h) (Or.inl ⟨by rfl, ?_⟩) hHeld ?_
          rotate_left
          · intro w_ hSw; (try dsimp only at hSw); go_simp; try (with_reducible rfl)
          try simp only [Act.put, List.setIfInBounds_toArray, List.set_cons_zero, List.set_cons_succ]
          refine wpAnyH_take (i := 2) (oi := ({ dst := (some 58), op := (Op.move (Operand.tmp 8)), type := 3, pos := "ref.go:139", after := #[], guard := none } : Oper)) (v := ?_) rfl (by kernel_rfl) (by kernel_rfl) (by kernel_rfl) (fun _ _ _ h => h) (Or.inl ⟨by rfl, ?_⟩) hHeld ?_
          rotate_left
          · intro w_ hSw; (try dsimp only at hSw); go_simp; try (with_reducible rfl)
          try simp only [Act.put, List.setIfInBounds_toArray, List.set_cons_zero, List.set_cons_succ]
          refine wpAnyH_take (i := 3) (oi := ({ dst := (some 59), op := (Op.indexAddr 54 (Operand.tmp 57) (Operand.tmp 58)), type := 0, pos := "ref.go:139", after := #[{ on := 1, ground := Ground.data }, { on := 2, ground := Ground.data }], guard := none } : Oper)) (v := ?_) rfl (by kernel_rfl) (by kernel_rfl) (by kernel_rfl) (fun _ _ _ h => h) (Or.inl ⟨by rfl, ?_⟩) hHeld ?_
          rotate_left
          · intro w_ hSw; (try dsimp only at hSw); go_simp; try (with_reducible rfl)
          try simp only [Act.put, List.setIfInBounds_toArray, List.set_cons_zero, List.set_cons_succ]
          refine wpAnyH_take (i := 4) (oi := ({ dst := (some 60), op := (Op.fieldAddr 77 (Operand.tmp 59) 0), type := 0, pos := "ref.go:139", after := #[{ on := 3, ground := Ground.data }], guard := none } : Oper)) (v := ?_) rfl (by kernel_rfl) (by kernel_rfl) (by kernel_rfl) (fun _ _ _ h => h) (Or.inl ⟨by rfl, ?_⟩) hHeld ?_
          rotate_left
          · intro w_ hSw; (try dsimp only at hSw); go_simp; try (with_reducible rfl)
          try simp only [Act.put, List.setIfInBounds_toArray, List.set_cons_zero, List.set_cons_succ]
          refine wpAnyH_take (i := 5) (oi := ({ dst := (some 61), op := (Op.load 3 (Operand.tmp 60)), type := 3, pos := "ref.go:139", after := #[{ on := 4, ground := Ground.data }], guard := none } : Oper)) (v := ?_) rfl (by kernel_rfl) (by kernel_rfl) (by kernel_rfl) (fun _ _ _ h => h) (Or.inl ⟨by rfl, ?_⟩) hHeld ?_
          rotate_left
          · intro w_ hSw; (try dsimp only at hSw); go_simp; try (with_reducible rfl)
          try simp only [Act.put, List.setIfInBounds_toArray, List.set_cons_zero, List.set_cons_succ]
          refine wpAnyH_take (i := 7) (oi := ({ dst := (some 63), op := (Op.move (Operand.tmp 7)), type := 54, pos := "ref.go:139", after := #[], guard := none } : Oper)) (v := ?_) rfl (by kernel_rfl) (by kernel_rfl) (by kernel_rfl) (fun _ _ _ h => h) (Or.inl ⟨by rfl, ?_⟩) hHeld ?_
          rotate_left
          · intro w_ hSw; (try dsimp only at hSw); go_simp; try (with_reducible rfl)
          try simp only [Act.put, List.setIfInBounds_toArray, List.set_cons_zero, List.set_cons_succ]
          refine wpAnyH_take (i := 8) (oi := ({ dst := (some 64), op := (Op.move (Operand.tmp 8)), type := 3, pos := "ref.go:139", after := #[], guard := none } : Oper)) (v := ?_) rfl (by kernel_rfl) (by kernel_rfl) (by kernel_rfl) (fun _ _ _ h => h) (Or.inl ⟨by rfl, ?_⟩) hHeld ?_
          rotate_left
          · intro w_ hSw; (try dsimp only at hSw); go_simp; try (with_reducible rfl)
          try simp only [Act.put, List.setIfInBounds_toArray, List.set_cons_zero, List.set_cons_succ]
          refine wpAnyH_take (i := 9) (oi := ({ dst := (some 65), op := (Op.indexAddr 54 (Operand.tmp 63) (Operand.tmp 64)), type := 0, pos := "ref.go:139", after := #[{ on := 7, ground := Ground.data }, { on := 8, ground := Ground.data }], guard := none } : Oper)) (v := ?_) rfl (by kernel_rfl) (by kernel_rfl) (by kernel_rfl) (fun _ _ _ h => h) (Or.inl ⟨by rfl, ?_⟩) hHeld ?_
          rotate_left
          · intro w_ hSw; (try dsimp only at hSw); go_simp; try (with_reducible rfl)
          try simp only [Act.put, List.setIfInBounds_toArray, List.set_cons_zero, List.set_cons_succ]
          refine wpAnyH_take (i := 10) (oi := ({ dst := (some 66), op := (Op.fieldAddr 77 (Operand.tmp 65) 1), type := 0, pos := "ref.go:139", after := #[{ on := 9, ground := Ground.data }], guard := none } : Oper)) (v := ?_) rfl (by kernel_rfl) (by kernel_rfl) (by kernel_rfl) (fun _ _ _ h => h) (Or.inl ⟨by rfl, ?_⟩) hHeld ?_
          rotate_left
          · intro w_ hSw; (try dsimp only at hSw); go_simp; try (with_reducible rfl)
          try simp only [Act.put, List.setIfInBounds_toArray, List.set_cons_zero, List.set_cons_succ]
          refine wpAnyH_take (i := 11) (oi := ({ dst := (some 67), op := (Op.load 27 (Operand.tmp 66)), type := 27, pos := "ref.go:139", after := #[{ on := 10, ground := Ground.data }], guard := none } : Oper)) (v := ?_) rfl (by kernel_rfl) (by kernel_rfl) (by kernel_rfl) (fun _ _ _ h => h) (Or.inl ⟨by rfl, ?_⟩) hHeld ?_
          rotate_left
          · intro w_ hSw; (try dsimp only at hSw); go_simp; try (with_reducible rfl)
          try simp only [Act.put, List.setIfInBounds_toArray, List.set_cons_zero, List.set_cons_succ]
          refine wpAnyH_take (i := 12) (oi := ({ dst := (some 68), op := (Op.move (Operand.tmp 2)), type := 3, pos := "ref.go:139", after := #[], guard := none } : Oper)) (v := ?_) rfl (by kernel_rfl) (by kernel_rfl) (by kernel_rfl) (fun _ _ _ h => h) (Or.inl ⟨by rfl, ?_⟩) hHeld ?_
          rotate_left
          · intro w_ hSw; (try dsimp only at hSw); go_simp; try (with_reducible rfl)
          try simp only [Act.put, List.setIfInBounds_toArray, List.set_cons_zero, List.set_cons_succ]
          refine wpAnyH_take (i := 13) (oi := ({ dst := (some 69), op := (Op.slice 27 (Operand.tmp 67) none (some (Operand.tmp 68)) none), type := 27, pos := "ref.go:139", after := #[{ on := 11, ground := Ground.data }, { on := 12, ground := Ground.data }], guard := none } : Oper)) (v := ?_) rfl (by kernel_rfl) (by kernel_rfl) (by kernel_rfl) (fun _ _ _ h => h) (Or.inl ⟨by rfl, ?_⟩) hHeld ?_
          rotate_left
          · intro w_ hSw; (try dsimp only at hSw); go_simp; try (with_reducible rfl)
          try simp only [Act.put, List.setIfInBounds_toArray, List.set_cons_zero, List.set_cons_succ]
          refine wpAnyH_take (i := 15) (oi := ({ dst := (some 71), op := (Op.move (Operand.tmp 9)), type := 27, pos := "ref.go:139", after := #[], guard := none } : Oper)) (v := ?_) rfl (by kernel_rfl) (by kernel_rfl) (by kernel_rfl) (fun _ _ _ h => h) (Or.inl ⟨by rfl, ?_⟩) hHeld ?_
          rotate_left
          · intro w_ hSw; (try dsimp only at hSw); go_simp; try (with_reducible rfl)
          try simp only [Act.put, List.setIfInBounds_toArray, List.set_cons_zero, List.set_cons_succ]
          refine wpAnyH_take (i := 16) (oi := ({ dst := (some 72), op := (Op.move (Operand.tmp 2)), type := 3, pos := "ref.go:139", after := #[], guard := none } : Oper)) (v := ?_) rfl (by kernel_rfl) (by kernel_rfl) (by kernel_rfl) (fun _ _ _ h => h) (Or.inl ⟨by rfl, ?_⟩) hHeld ?_
          rotate_left
          · intro w_ hSw; (try dsimp only at hSw); go_simp; try (with_reducible rfl)
          try simp only [Act.put, List.setIfInBounds_toArray, List.set_cons_zero, List.set_cons_succ]
          refine wpAnyH_take (i := 17) (oi := ({ dst := (some 73), op := (Op.slice 27 (Operand.tmp 71) (some (Operand.tmp 72)) none none), type := 27, pos := "ref.go:139", after := #[{ on := 15, ground := Ground.data }, { on := 16, ground := Ground.data }], guard := none } : Oper)) (v := ?_) rfl (by kernel_rfl) (by kernel_rfl) (by kernel_rfl) (fun _ _ _ h => h) (Or.inl ⟨by rfl, ?_⟩) hHeld ?_
          rotate_left
          · intro w_ hSw; (try dsimp only at hSw); go_simp; try (with_reducible rfl)
          try simp only [Act.put, List.setIfInBounds_toArray, List.set_cons_zero, List.set_cons_succ]
          refine wpAnyH_ready (rs := [6]) (by kernel_rfl) (by simp) ?_
          refine AllReadyH.cons (o := ({ dst := (some 62), op := (Op.buildSlice 27 0 #[]), type := 27, pos := "ref.go:139", after := #[], guard := none } : Oper)) rfl (fun K hK => ?_) AllReadyH.nil
          refine st_run (by rfl) (w1 := wd0.alloc (.cells #[] 5 (0, 0))) (v := .slice (some ⟨wd0.heap.size, 0, none⟩) 0 0) ?hrMa ?_; (case hrMa => first | (go_simp; done) | (go_simp; rfl)); have HPn := Aside0.mk (show Hp w0 (wd0.alloc (.cells #[] 5 (0, 0))) (.row (Kd.int .u8) 5 w0.heap.size (.slice (some ⟨wd0.heap.size, 0, none⟩) 0 0) [] :: _) from HP.out.lit 5 (d := Kd.int .u8) (xs := []) (inner := []) (reps_ints .u8 _ _ []) (by decide)); clear HP; have HP := HPn; clear HPn; obtain ⟨wl, hwl⟩ : ∃ z, wd0.alloc (.cells #[] 5 (0, 0)) = z := ⟨_, rfl⟩; obtain ⟨Al, hAl⟩ : ∃ z : Option Addr, some ⟨wd0.heap.size, 0, none⟩ = z := ⟨_, rfl⟩; rw [hwl, hAl] at HP; rw [hwl, hAl]; clear hwl hAl
          clear hHeld
          refine hK.out _ _ ?_ (fun hHeld => ?_)
          · (try dsimp only); first | exact HC.out _ _ 1 HP.out rfl | exact HC.out _ _ 2 HP.out rfl
          clear hK K
          try simp only [Act.put, List.setIfInBounds_toArray, List.set_cons_zero, List.set_cons_succ]
          refine wpAnyH_ready (rs := [14]) (by kernel_rfl) (by simp) ?_
          refine AllReadyH.cons (o := ({ dst := (some 70), op := (Op.call { callee := (Callee.builtin Builtin.append), args := #[(Operand.tmp 62), (Operand.tmp 69)], argTypes := #[27, 27] }), type := 27, pos := "ref.go:139", after := #[{ on := 6, ground := Ground.data }, { on := 13, ground := Ground.data }], guard := none } : Oper)) rfl (fun K hK => ?_) AllReadyH.nil
          refine st_append (plain_int .u8) HP.out 0 (by rfl) (.tmp 62) (.tmp 69) 27 5 (.int .u8 0) 1 (by rfl) Try.underlying27 info5 rfl (by decide) (by decide) (.slice Al 0 0) [] (p.b.take t.toNat) (some ⟨bp, op, none⟩) t.toNat cp (by rfl) (by rfl) rfl (C_tk (HRD.out _ _ { R with firm := F, soft := [] } ex2 (i + 3) HP.out HSG.out (List.mem_append_right _ (List.mem_append_right _ HPX.out))) t.toNat (by have := HTN.out; omega) rfl) (by have := HTN.out; show (0 + t.toNat) * 1 ≤ 140737488355328; omega) ?_; intro v_n wq hpn; clear HP; have HP := Aside0.mk hpn; clear hpn; rw [List.nil_append] at HP; obtain ⟨A_n, c_n, rfl⟩ := Kd.R_slice (HP.out.row 0 rfl); obtain ⟨M1, hM1⟩ : ∃ z, p.b.take t.toNat = z := ⟨_, rfl⟩; rw [hM1] at HP; (try rw [hM1]); have HM1 := Aside0.mk (And.intro hM1 (show M1.length = t.toNat from by rw [← hM1, List.length_take, HPB.out.2.1]; have := HTN.out; omega)); clear hM1
          clear hHeld
          refine hK.out _ _ ?_ (fun hHeld => ?_)
          · (try dsimp only); first | exact HC.out _ _ 1 HP.out rfl | exact HC.out _ _ 2 HP.out rfl
          clear hK K
          try simp only [Act.put, List.setIfInBounds_toArray, List.set_cons_zero, List.set_cons_succ]
          refine wpAnyH_ready (rs := [18]) (by kernel_rfl) (by simp) ?_
          refine AllReadyH.cons (o := ({ dst := (some 74), op := (Op.call { callee := (Callee.builtin Builtin.append), args := #[(Operand.tmp 70), (Operand.tmp 73)], argTypes := #[27, 27] }), type := 27, pos := "ref.go:139", after := #[{ on := 14, ground := Ground.data }, { on := 17, ground := Ground.data }, { on := 14, ground := Ground.chain }], guard := none } : Oper)) rfl (fun K hK => ?_) AllReadyH.nil
          refine st_append (plain_int .u8) HP.out 0 (by rfl) (.tmp 70) (.tmp 73) 27 5 (.int .u8 0) 1 (by rfl) Try.underlying27 info5 rfl (by decide) (by decide) (.slice A_n M1.length c_n) M1 m9 A9 m9.length (c_b - t.toNat) (by rfl) (by rfl) rfl (H9.out.2.2 _ (by have h := (Kd.R_reads' (HP.out.row 1 rfl)).2.2; rw [HFB.out.1] at h; exact h)) (by rw [HM1.out.2, H9.out.2.1]; have := HTN.out; omega) ?_; intro v_m wz hpn; clear HP; have HP := Aside0.mk hpn; clear hpn; obtain ⟨A_m, c_m, rfl⟩ := Kd.R_slice (HP.out.row 0 rfl); obtain ⟨M2, hM2⟩ : ∃ z, M1 ++ m9 = z := ⟨_, rfl⟩; rw [hM2] at HP; (try rw [hM2]); have HM2 := Aside0.mk (And.intro hM2 (show M2.length = 64 from by rw [← hM2, List.length_append, HM1.out.2, H9.out.2.1]; have := HTN.out; omega)); rw [HM2.out.2] at HP; (try rw [HM2.out.2]); clear hM2
          clear hHeld
          refine hK.out _ _ ?_ (fun hHeld => ?_)
          · (try dsimp only); first | exact HC.out _ _ 1 HP.out rfl | exact HC.out _ _ 2 HP.out rfl
          clear hK K
          try simp only [Act.put, List.setIfInBounds_toArray, List.set_cons_zero, List.set_cons_succ]
          refine wpAnyH_take (i := 19) (oi := ({ dst := (some 75), op := (Op.build 77 #[(0, (Operand.tmp 61)), (1, (Operand.tmp 74))]), type := 77, pos := "ref.go:139", after := #[{ on := 5, ground := Ground.data }, { on := 18, ground := Ground.data }], guard := none } : Oper)) (v := ?_) rfl (by kernel_rfl) (by kernel_rfl) (by kernel_rfl) (fun _ _ _ h => h) (Or.inl ⟨by rfl, ?_⟩) hHeld ?_
          rotate_left
          · intro w_ hSw; (try dsimp only at hSw); go_simp; try (with_reducible rfl)
          try simp only [Act.put, List.setIfInBounds_toArray, List.set_cons_zero, List.set_cons_succ]
          refine wpAnyH_ready (rs := [20]) (by kernel_rfl) (by simp) ?_
          refine AllReadyH.cons (o := ({ dst := (some 76), op := (Op.call { callee := (Callee.value (Operand.func 46)), args := #[(Operand.tmp 56), (Operand.tmp 75)], argTypes := #[50, 77] }), type := 0, pos := "ref.go:139", after := #[{ on := 0, ground := Ground.data }, { on := 19, ground := Ground.data }, { on := 18, ground := Ground.chain }], guard := none } : Oper)) rfl (fun K hK => ?_) AllReadyH.nil
          go_simp
          have HMB := Aside0.mk (show Bytes M2 from by rw [← HM2.out.1, ← HM1.out.1, ← H9.out.1]; intro y hy; rcases List.mem_append.1 hy with h | h; exact HPB.out.2.2 y (List.mem_of_mem_take h); exact HFB.out.2 y (List.mem_of_mem_drop h)); have HPA := Aside0.mk (Hp.adopt HP.out (i + 2) g { R with firm := F, soft := [] } ex2 HSG.out pn HM2.out.2 HMB.out); clear HP; have HP := Aside0.mk (show Hp w0 wz (.row (Kd.int .u8) 5 w0.heap.size (.slice A_b 64 c_b) nb :: .row KPt 77 w0.heap.size (.slice (some ⟨bA, oA, none⟩) R.soft.length c2) R.soft :: Rs.set i (rRef w0.heap.size g { R with firm := F, soft := [] } (⟨pn, .slice A_m 64 c_m, M2⟩ :: ex2))) from by have h : Hp w0 wz (_ :: _ :: (Rs.set i _).set i (rRef w0.heap.size g { R with firm := F, soft := [] } (⟨pn, .slice A_m 64 c_m, M2⟩ :: ex2))) := HPA.out; rw [List.set_set] at h; exact h); clear HPA; refine (CF.out ⟨pn, .slice A_m 64 c_m, M2⟩ _ _ (i + 2) (⟨pn, .slice A_m 64 c_m, M2⟩ :: ex2) HP.out (set_get (α := Res) (l := Rs) _ HI.out) List.mem_cons_self).mono ?_; rintro e w9 ⟨rfl, hpn⟩; clear HP; have HP := Aside0.mk (show Hp w0 w9 (.row (Kd.int .u8) 5 w0.heap.size (.slice A_b 64 c_b) nb :: .row KPt 77 w0.heap.size (.slice (some ⟨bA, oA, none⟩) R.soft.length c2) R.soft :: Rs.set i (rRef w0.heap.size g { R with firm := putP F ⟨pn, .slice A_m 64 c_m, M2⟩, soft := [] } (⟨pn, .slice A_m 64 c_m, M2⟩ :: ex2))) from by have h : Hp w0 w9 (_ :: _ :: (Rs.set i _).set i (rRef w0.heap.size g { R with firm := putP F ⟨pn, .slice A_m 64 c_m, M2⟩, soft := [] } (⟨pn, .slice A_m 64 c_m, M2⟩ :: ex2))) := hpn; rw [List.set_set] at h; exact h); clear hpn
          go_wp2_with fail
          clear hHeld
          refine hK.out _ _ ?_ (fun hHeld => ?_)
          · (try dsimp only); first | exact HC.out _ _ 1 HP.out rfl | exact HC.out _ _ 2 HP.out rfl
          clear hK K
          try simp only [Act.put, List.setIfInBounds_toArray, List.set_cons_zero, List.set_cons_succ]
          refine wpAnyH_done (by kernel_rfl) ?_ _
          clear hHeld
          have HGG := Aside0.mk (show crashG keep (nbP (R.soft.drop (j + 1))) (j + 1) 0 (firmB (putP F ⟨pn, .slice A_m 64 c_m, M2⟩)) = crashG keep (nbP R.soft) 0 torn (firmB R.firm) from by
            rw [← HF.out.2.2.2, HG.out, if_neg HNK.out, firmB_put _ HF.out.1, HNB.out, HM1.out.1, H9.out.1, HM2.out.1])
          go_wp2_with fail
          have HPn := Aside0.mk HP.out.drop1
          clear HP
          go_roundg (gk - 1)
          case measure => have := HK.out; have := HJ.out.1; omega
          case rel => exact ⟨j + 1, x + 1, 0, putP F ⟨pn, .slice A_m 64 c_m, M2⟩, ⟨pn, .slice A_m 64 c_m, M2⟩ :: ex2, rfl, rfl, ⟨by have := HX.out; omega⟩, ⟨by have := HK.out; have := HJ.out.1; omega⟩, ⟨by decide⟩, ⟨uniq_put _ HF.out.1, by have := putP_len F ⟨pn, .slice A_m 64 c_m, M2⟩; have := HF.out.2.1; omega, fun p hp => List.mem_cons_of_mem _ (HF.out.2.2.1 p hp), HGG.out⟩, HPn⟩
        · have dt : decide (t > 0) = false := decide_eq_false ct
          have HGG := Aside0.mk (show crashG keep (nbP (R.soft.drop (j + 1))) (j + 1) 0 (firmB F) = crashG keep (nbP R.soft) 0 torn (firmB R.firm) from by
            have h0 : t.toNat = 0 := by have := HT.out; omega
            rw [← HF.out.2.2.2, HG.out, if_neg HNK.out, h0, put1_self])
          clear ct hcn hcv
          go_wp2_with fail
          go_roundg (gk - 1)
          case measure => have := HK.out; have := HJ.out.1; omega
          case rel => exact ⟨j + 1, x + 1, 0, F, ex2, rfl, rfl, ⟨by have := HX.out; omega⟩, ⟨by have := HK.out; have := HJ.out.1; omega⟩, ⟨by decide⟩, ⟨HF.out.1, by have := HF.out.2.1; omega, HF.out.2.2.1, HGG.out⟩, HP⟩
    · have dk : decide (x < (keep.length : Int)) = false := decide_eq_false (by omega)
      have HNK := Aside0.mk (show ¬ keep[j]? = some true from by rw [List.getElem?_eq_none (by omega)]; decide)
      clear hx hk hll c1_ hp hxj hpm hpx hcp hbl hbb hrd hpn_ hpv_ ck1 hkl hkl2
      by_cases ct : 0 < t
      · have dt : decide (t > 0) = true := decide_eq_true ct
        have ht := HT.out
        have hrunA : ∀ w : World, (Instr.slice 27 (.slice (some ⟨bp, op, none⟩) 64 cp) none (some (.int .i64 t)) none).run Try.prog w = .ok (.slice (some ⟨bp, op, none⟩) t.toNat cp) w := fun w => by
          have h := D.to8 (some ⟨bp, op, none⟩) cp p.b t.toNat (by rw [HPB.out.2.1]; omega) (by rw [HPB.out.2.1]; exact HPB.out.1) t (by omega) w
          rwa [HPB.out.2.1] at h
        have HTN := Aside0.mk (show t.toNat ≤ 63 ∧ ((t.toNat : Nat) : Int) = t by omega)
        have q63 : t ≤ 64 := by omega
        have q0t : 0 ≤ t := by omega
        have HFB := Aside0.mk (show (firmB F pn).length = 64 ∧ Bytes (firmB F pn) from by
          obtain ⟨u1, u2, qs, hm, _⟩ := Hp.openR HP.out (i + 1) g { R with firm := F, soft := [] } ex2 HSG.out
          exact firmB_ok (fun p hp => ⟨(hm p (List.mem_append_left _ hp)).2.1, (hm p (List.mem_append_left _ hp)).2.2⟩) pn)
        clear ct ht hcn hcv
        go_wp2_with (first | ((with_reducible refine gate_dst (N := 47) rfl ?_); refine ev_run rfl (w1 := wr.alloc (.cells #[] 5 (0, 0))) (v := .slice (some ⟨wr.heap.size, 0, none⟩) 0 0) ?hrLb ?_; (case hrLb => first | (go_simp; done) | (go_simp; rfl)); have HPn := Aside0.mk (show Hp w0 (wr.alloc (.cells #[] 5 (0, 0))) (.row (Kd.int .u8) 5 w0.heap.size (.slice (some ⟨wr.heap.size, 0, none⟩) 0 0) [] :: _) from HP.out.lit 5 (d := Kd.int .u8) (xs := []) (inner := []) (reps_ints .u8 _ _ []) (by decide)); clear HP; have HP := HPn; clear HPn; obtain ⟨w7, hw7⟩ : ∃ z, wr.alloc (.cells #[] 5 (0, 0)) = z := ⟨_, rfl⟩; obtain ⟨A7, hA7⟩ : ∃ z : Option Addr, some ⟨wr.heap.size, 0, none⟩ = z := ⟨_, rfl⟩; rw [hw7, hA7] at HP; rw [hw7, hA7]; clear hw7 hA7; obtain ⟨hcn, hcv⟩ := HC.out _ _ 1 HP.out rfl))
        refine (CN.out pn _ _ (i + 2) HP.out HSG.out).mono ?_; rintro e w8 ⟨bN, oN, cN, X, rfl, hcN, hpn, hCN⟩
        clear HP
        have HP := Aside0.mk hpn
        have HCN := Aside0.mk (show Kd.C (Kd.int .u8) w8 (some ⟨bN, oN, none⟩) 64 (firmB F pn) from hCN w8 hpn)
        obtain ⟨nb, hnb⟩ : ∃ z, firmB F pn = z := ⟨_, rfl⟩
        have HNB := Aside0.mk hnb
        rw [hnb] at HCN HFB
        clear hpn hCN hcN hcn hcv hnb
        go_wp2_with (first | ((with_reducible refine gate_dst (N := 55) rfl ?_); refine ev_append (plain_int .u8) HP.out 1 rfl (.tmp 47) (.tmp 54) 27 5 (.int .u8 0) 1 rfl Try.underlying27 info5 rfl (by decide) (by decide) (.slice A7 0 0) [] nb (some ⟨bN, oN, none⟩) 64 cN rfl rfl rfl HCN.out (by decide) ?_; intro v_b wb hpn; clear HP; have HP := Aside0.mk hpn.drop1; clear hpn; obtain ⟨A_b, c_b, rfl⟩ := Kd.R_slice (HP.out.row 0 rfl); rw [List.nil_append] at HP; rw [List.nil_append, HFB.out.1]; rw [HFB.out.1] at HP))
        have HPn := Aside0.mk (show Hp w0 wb (.row (Kd.int .u8) 5 w0.heap.size (.slice A_b 64 c_b) nb :: .row KPt 77 w0.heap.size (.slice (some ⟨bA, oA, none⟩) R.soft.length c2) R.soft :: Rs.set i (rRef w0.heap.size g { R with firm := F, soft := [] } ex2)) from HP.out)
        clear HP HCN
        have HP := HPn
        clear HPn
        have hR0 := Kd.R_reads' (HP.out.row 0 rfl)
        obtain ⟨A9, m9, hm9, hl9, hc9, hrunB, hC9⟩ := D.from8 A_b c_b nb t.toNat (by rw [HFB.out.1]; have := HTN.out; omega) (by rw [HFB.out.1]; exact hR0.2.1) t (by have := HTN.out; omega)
        rw [HFB.out.1] at hrunB hC9 hl9
        have H9 := Aside0.mk (And.intro hm9 (And.intro hl9 hC9))
        clear hR0 hm9 hl9 hc9 hC9
        refine held_named (S := (fun w' => w'.cell? ⟨bA, oA + x.toNat * 2, none⟩ = some (.int .i64 pn) ∧ w'.cell? ⟨bA, oA + x.toNat * 2 + 1, none⟩ = some (.slice (some ⟨bp, op, none⟩) 64 cp))) (by kernel_rfl) (fun wd0 hwd0 => ?_)
        have HPn := Aside0.mk (HP.out.drewN 1)
        rw [← World.drew_is_drewN, hwd0] at HPn
        clear HP hwd0
        have HP := HPn
        clear HPn
        refine ⟨by (try dsimp only); first | exact HC.out _ _ 1 HP.out rfl | exact HC.out _ _ 2 HP.out rfl, fun hHeld => ?_⟩
        refine wpAnyH_take (i := 0) (oi := ({ dst := (some 56), op := (Op.move (Operand.tmp 0)), type := 50, pos := "ref.go:139", after := #[], guard := none } : Oper)) (v := ?_) rfl (by kernel_rfl) (by kernel_rfl) (by kernel_rfl) (fun _ _ _ h => h) (Or.inl ⟨by rfl, ?_⟩) hHeld ?_
        rotate_left
        · intro w_ hSw; (try dsimp only at hSw); go_simp; try (with_reducible rfl)
        try simp only [Act.put, List.setIfInBounds_toArray, List.set_cons_zero, List.set_cons_succ]
        refine wpAnyH_take (i := 1) (oi := ({ dst := (some 57), op := (Op.move (Operand.tmp 7)), type := 54, pos := "ref.go:139", after := #[], guard := none } : Oper)) (v := ?_) rfl (by kernel_rfl) (by kernel_rfl) (by kernel_rfl) (fun _ _ _ h => h) (Or.inl ⟨by rfl, ?_⟩) hHeld ?_
        rotate_left
        · intro w_ hSw; (try dsimp only at hSw); go_simp; try (with_reducible rfl)
        try simp only [Act.put, List.setIfInBounds_toArray, List.set_cons_zero, List.set_cons_succ]
        refine wpAnyH_take (i := 2) (oi := ({ dst := (some 58), op := (Op.move (Operand.tmp 8)), type := 3, pos := "ref.go:139", after := #[], guard := none } : Oper)) (v := ?_) rfl (by kernel_rfl) (by kernel_rfl) (by kernel_rfl) (fun _ _ _ h => h) (Or.inl ⟨by rfl, ?_⟩) hHeld ?_
        rotate_left
        · intro w_ hSw; (try dsimp only at hSw); go_simp; try (with_reducible rfl)
        try simp only [Act.put, List.setIfInBounds_toArray, List.set_cons_zero, List.set_cons_succ]
        refine wpAnyH_take (i := 3) (oi := ({ dst := (some 59), op := (Op.indexAddr 54 (Operand.tmp 57) (Operand.tmp 58)), type := 0, pos := "ref.go:139", after := #[{ on := 1, ground := Ground.data }, { on := 2, ground := Ground.data }], guard := none } : Oper)) (v := ?_) rfl (by kernel_rfl) (by kernel_rfl) (by kernel_rfl) (fun _ _ _ h => h) (Or.inl ⟨by rfl, ?_⟩) hHeld ?_
        rotate_left
        · intro w_ hSw; (try dsimp only at hSw); go_simp; try (with_reducible rfl)
        try simp only [Act.put, List.setIfInBounds_toArray, List.set_cons_zero, List.set_cons_succ]
        refine wpAnyH_take (i := 4) (oi := ({ dst := (some 60), op := (Op.fieldAddr 77 (Operand.tmp 59) 0), type := 0, pos := "ref.go:139", after := #[{ on := 3, ground := Ground.data }], guard := none } : Oper)) (v := ?_) rfl (by kernel_rfl) (by kernel_rfl) (by kernel_rfl) (fun _ _ _ h => h) (Or.inl ⟨by rfl, ?_⟩) hHeld ?_
        rotate_left
        · intro w_ hSw; (try dsimp only at hSw); go_simp; try (with_reducible rfl)
        try simp only [Act.put, List.setIfInBounds_toArray, List.set_cons_zero, List.set_cons_succ]
        refine wpAnyH_take (i := 5) (oi := ({ dst := (some 61), op := (Op.load 3 (Operand.tmp 60)), type := 3, pos := "ref.go:139", after := #[{ on := 4, ground := Ground.data }], guard := none } : Oper)) (v := ?_) rfl (by kernel_rfl) (by kernel_rfl) (by kernel_rfl) (fun _ _ _ h => h) (Or.inl ⟨by rfl, ?_⟩) hHeld ?_
        rotate_left
        · intro w_ hSw; (try dsimp only at hSw); go_simp; try (with_reducible rfl)
        try simp only [Act.put, List.setIfInBounds_toArray, List.set_cons_zero, List.set_cons_succ]
        refine wpAnyH_take (i := 7) (oi := ({ dst := (some 63), op := (Op.move (Operand.tmp 7)), type := 54, pos := "ref.go:139", after := #[], guard := none } : Oper)) (v := ?_) rfl (by kernel_rfl) (by kernel_rfl) (by kernel_rfl) (fun _ _ _ h => h) (Or.inl ⟨by rfl, ?_⟩) hHeld ?_
        rotate_left
        · intro w_ hSw; (try dsimp only at hSw); go_simp; try (with_reducible rfl)
        try simp only [Act.put, List.setIfInBounds_toArray, List.set_cons_zero, List.set_cons_succ]
        refine wpAnyH_take (i := 8) (oi := ({ dst := (some 64), op := (Op.move (Operand.tmp 8)), type := 3, pos := "ref.go:139", after := #[], guard := none } : Oper)) (v := ?_) rfl (by kernel_rfl) (by kernel_rfl) (by kernel_rfl) (fun _ _ _ h => h) (Or.inl ⟨by rfl, ?_⟩) hHeld ?_
        rotate_left
        · intro w_ hSw; (try dsimp only at hSw); go_simp; try (with_reducible rfl)
        try simp only [Act.put, List.setIfInBounds_toArray, List.set_cons_zero, List.set_cons_succ]
        refine wpAnyH_take (i := 9) (oi := ({ dst := (some 65), op := (Op.indexAddr 54 (Operand.tmp 63) (Operand.tmp 64)), type := 0, pos := "ref.go:139", after := #[{ on := 7, ground := Ground.data }, { on := 8, ground := Ground.data }], guard := none } : Oper)) (v := ?_) rfl (by kernel_rfl) (by kernel_rfl) (by kernel_rfl) (fun _ _ _ h => h) (Or.inl ⟨by rfl, ?_⟩) hHeld ?_
        rotate_left
        · intro w_ hSw; (try dsimp only at hSw); go_simp; try (with_reducible rfl)
        try simp only [Act.put, List.setIfInBounds_toArray, List.set_cons_zero, List.set_cons_succ]
        refine wpAnyH_take (i := 10) (oi := ({ dst := (some 66), op := (Op.fieldAddr 77 (Operand.tmp 65) 1), type := 0, pos := "ref.go:139", after := #[{ on := 9, ground := Ground.data }], guard := none } : Oper)) (v := ?_) rfl (by kernel_rfl) (by kernel_rfl) (by kernel_rfl) (fun _ _ _ h => h) (Or.inl ⟨by rfl, ?_⟩) hHeld ?_
        rotate_left
        · intro w_ hSw; (try dsimp only at hSw); go_simp; try (with_reducible rfl)
        try simp only [Act.put, List.setIfInBounds_toArray, List.set_cons_zero, List.set_cons_succ]
        refine wpAnyH_take (i := 11) (oi := ({ dst := (some 67), op := (Op.load 27 (Operand.tmp 66)), type := 27, pos := "ref.go:139", after := #[{ on := 10, ground := Ground.data }], guard := none } : Oper)) (v := ?_) rfl (by kernel_rfl) (by kernel_rfl) (by kernel_rfl) (fun _ _ _ h => h) (Or.inl ⟨by rfl, ?_⟩) hHeld ?_
        rotate_left
        · intro w_ hSw; (try dsimp only at hSw); go_simp; try (with_reducible rfl)
        try simp only [Act.put, List.setIfInBounds_toArray, List.set_cons_zero, List.set_cons_succ]
        refine wpAnyH_take (i := 12) (oi := ({ dst := (some 68), op := (Op.move (Operand.tmp 2)), type := 3, pos := "ref.go:139", after := #[], guard := none } : Oper)) (v := ?_) rfl (by kernel_rfl) (by kernel_rfl) (by kernel_rfl) (fun _ _ _ h => h) (Or.inl ⟨by rfl, ?_⟩) hHeld ?_
        rotate_left
        · intro w_ hSw; (try dsimp only at hSw); go_simp; try (with_reducible rfl)
        try simp only [Act.put, List.setIfInBounds_toArray, List.set_cons_zero, List.set_cons_succ]
        refine wpAnyH_take (i := 13) (oi := ({ dst := (some 69), op := (Op.slice 27 (Operand.tmp 67) none (some (Operand.tmp 68)) none), type := 27, pos := "ref.go:139", after := #[{ on := 11, ground := Ground.data }, { on := 12, ground := Ground.data }], guard := none } : Oper)) (v := ?_) rfl (by kernel_rfl) (by kernel_rfl) (by kernel_rfl) (fun _ _ _ h => h) (Or.inl ⟨by rfl, ?_⟩) hHeld ?_
        rotate_left
        · intro w_ hSw; (try dsimp only at hSw); go_simp; try (with_reducible rfl)
        try simp only [Act.put, List.setIfInBounds_toArray, List.set_cons_zero, List.set_cons_succ]
        refine wpAnyH_take (i := 15) (oi := ({ dst := (some 71), op := (Op.move (Operand.tmp 9)), type := 27, pos := "ref.go:139", after := #[], guard := none } : Oper)) (v := ?_) rfl (by kernel_rfl) (by kernel_rfl) (by kernel_rfl) (fun _ _ _ h => h) (Or.inl ⟨by rfl, ?_⟩) hHeld ?_
        rotate_left
        · intro w_ hSw; (try dsimp only at hSw); go_simp; try (with_reducible rfl)
        try simp only [Act.put, List.setIfInBounds_toArray, List.set_cons_zero, List.set_cons_succ]
        refine wpAnyH_take (i := 16) (oi := ({ dst := (some 72), op := (Op.move (Operand.tmp 2)), type := 3, pos := "ref.go:139", after := #[], guard := none } : Oper)) (v := ?_) rfl (by kernel_rfl) (by kernel_rfl) (by kernel_rfl) (fun _ _ _ h => h) (Or.inl ⟨by rfl, ?_⟩) hHeld ?_
        rotate_left
        · intro w_ hSw; (try dsimp only at hSw); go_simp; try (with_reducible rfl)
        try simp only [Act.put, List.setIfInBounds_toArray, List.set_cons_zero, List.set_cons_succ]
        refine wpAnyH_take (i := 17) (oi := ({ dst := (some 73), op := (Op.slice 27 (Operand.tmp 71) (some (Operand.tmp 72)) none none), type := 27, pos := "ref.go:139", after := #[{ on := 15, ground := Ground.data }, { on := 16, ground := Ground.data }], guard := none } : Oper)) (v := ?_) rfl (by kernel_rfl) (by kernel_rfl) (by kernel_rfl) (fun _ _ _ h => h) (Or.inl ⟨by rfl, ?_⟩) hHeld ?_
        rotate_left
        · intro w_ hSw; (try dsimp only at hSw); go_simp; try (with_reducible rfl)
        try simp only [Act.put, List.setIfInBounds_toArray, List.set_cons_zero, List.set_cons_succ]
        refine wpAnyH_ready (rs := [6]) (by kernel_rfl) (by simp) ?_
        refine AllReadyH.cons (o := ({ dst := (some 62), op := (Op.buildSlice 27 0 #[]), type := 27, pos := "ref.go:139", after := #[], guard := none } : Oper)) rfl (fun K hK => ?_) AllReadyH.nil
        refine st_run (by rfl) (w1 := wd0.alloc (.cells #[] 5 (0, 0))) (v := .slice (some ⟨wd0.heap.size, 0, none⟩) 0 0) ?hrMb ?_; (case hrMb => first | (go_simp; done) | (go_simp; rfl)); have HPn := Aside0.mk (show Hp w0 (wd0.alloc (.cells #[] 5 (0, 0))) (.row (Kd.int .u8) 5 w0.heap.size (.slice (some ⟨wd0.heap.size, 0, none⟩) 0 0) [] :: _) from HP.out.lit 5 (d := Kd.int .u8) (xs := []) (inner := []) (reps_ints .u8 _ _ []) (by decide)); clear HP; have HP := HPn; clear HPn; obtain ⟨wl, hwl⟩ : ∃ z, wd0.alloc (.cells #[] 5 (0, 0)) = z := ⟨_, rfl⟩; obtain ⟨Al, hAl⟩ : ∃ z : Option Addr, some ⟨wd0.heap.size, 0, none⟩ = z := ⟨_, rfl⟩; rw [hwl, hAl] at HP; rw [hwl, hAl]; clear hwl hAl
        clear hHeld
        refine hK.out _ _ ?_ (fun hHeld => ?_)
        · (try dsimp only); first | exact HC.out _ _ 1 HP.out rfl | exact HC.out _ _ 2 HP.out rfl
        clear hK K
        try simp only [Act.put, List.setIfInBounds_toArray, List.set_cons_zero, List.set_cons_succ]
        refine wpAnyH_ready (rs := [14]) (by kernel_rfl) (by simp) ?_
        refine AllReadyH.cons (o := ({ dst := (some 70), op := (Op.call { callee := (Callee.builtin Builtin.append), args := #[(Operand.tmp 62), (Operand.tmp 69)], argTypes := #[27, 27] }), type := 27, pos := "ref.go:139", after := #[{ on := 6, ground := Ground.data }, { on := 13, ground := Ground.data }], guard := none } : Oper)) rfl (fun K hK => ?_) AllReadyH.nil
        refine st_append (plain_int .u8) HP.out 0 (by rfl) (.tmp 62) (.tmp 69) 27 5 (.int .u8 0) 1 (by rfl) Try.underlying27 info5 rfl (by decide) (by decide) (.slice Al 0 0) [] (p.b.take t.toNat) (some ⟨bp, op, none⟩) t.toNat cp (by rfl) (by rfl) rfl (C_tk (HRD.out _ _ { R with firm := F, soft := [] } ex2 (i + 3) HP.out HSG.out (List.mem_append_right _ (List.mem_append_right _ HPX.out))) t.toNat (by have := HTN.out; omega) rfl) (by have := HTN.out; show (0 + t.toNat) * 1 ≤ 140737488355328; omega) ?_; intro v_n wq hpn; clear HP; have HP := Aside0.mk hpn; clear hpn; rw [List.nil_append] at HP; obtain ⟨A_n, c_n, rfl⟩ := Kd.R_slice (HP.out.row 0 rfl); obtain ⟨M1, hM1⟩ : ∃ z, p.b.take t.toNat = z := ⟨_, rfl⟩; rw [hM1] at HP; (try rw [hM1]); have HM1 := Aside0.mk (And.intro hM1 (show M1.length = t.toNat from by rw [← hM1, List.length_take, HPB.out.2.1]; have := HTN.out; omega)); clear hM1
        clear hHeld
        refine hK.out _ _ ?_ (fun hHeld => ?_)
        · (try dsimp only); first | exact HC.out _ _ 1 HP.out rfl | exact HC.out _ _ 2 HP.out rfl
        clear hK K
        try simp only [Act.put, List.setIfInBounds_toArray, List.set_cons_zero, List.set_cons_succ]
        refine wpAnyH_ready (rs := [18]) (by kernel_rfl) (by simp) ?_
        refine AllReadyH.cons (o := ({ dst := (some 74), op := (Op.call { callee := (Callee.builtin Builtin.append), args := #[(Operand.tmp 70), (Operand.tmp 73)], argTypes := #[27, 27] }), type := 27, pos := "ref.go:139", after := #[{ on := 14, ground := Ground.data }, { on := 17, ground := Ground.data }, { on := 14, ground := Ground.chain }], guard := none } : Oper)) rfl (fun K hK => ?_) AllReadyH.nil
        refine st_append (plain_int .u8) HP.out 0 (by rfl) (.tmp 70) (.tmp 73) 27 5 (.int .u8 0) 1 (by rfl) Try.underlying27 info5 rfl (by decide) (by decide) (.slice A_n M1.length c_n) M1 m9 A9 m9.length (c_b - t.toNat) (by rfl) (by rfl) rfl (H9.out.2.2 _ (by have h := (Kd.R_reads' (HP.out.row 1 rfl)).2.2; rw [HFB.out.1] at h; exact h)) (by rw [HM1.out.2, H9.out.2.1]; have := HTN.out; omega) ?_; intro v_m wz hpn; clear HP; have HP := Aside0.mk hpn; clear hpn; obtain ⟨A_m, c_m, rfl⟩ := Kd.R_slice (HP.out.row 0 rfl); obtain ⟨M2, hM2⟩ : ∃ z, M1 ++ m9 = z := ⟨_, rfl⟩; rw [hM2] at HP; (try rw [hM2]); have HM2 := Aside0.mk (And.intro hM2 (show M2.length = 64 from by rw [← hM2, List.length_append, HM1.out.2, H9.out.2.1]; have := HTN.out; omega)); rw [HM2.out.2] at HP; (try rw [HM2.out.2]); clear hM2
        clear hHeld
        refine hK.out _ _ ?_ (fun hHeld => ?_)
        · (try dsimp only); first | exact HC.out _ _ 1 HP.out rfl | exact HC.out _ _ 2 HP.out rfl
        clear hK K
        try simp only [Act.put, List.setIfInBounds_toArray, List.set_cons_zero, List.set_cons_succ]
        refine wpAnyH_take (i := 19) (oi := ({ dst := (some 75), op := (Op.build 77 #[(0, (Operand.tmp 61)), (1, (Operand.tmp 74))]), type := 77, pos := "ref.go:139", after := #[{ on := 5, ground := Ground.data }, { on := 18, ground := Ground.data }], guard := none } : Oper)) (v := ?_) rfl (by kernel_rfl) (by kernel_rfl) (by kernel_rfl) (fun _ _ _ h => h) (Or.inl ⟨by rfl, ?_⟩) hHeld ?_
        rotate_left
        · intro w_ hSw; (try dsimp only at hSw); go_simp; try (with_reducible rfl)
        try simp only [Act.put, List.setIfInBounds_toArray, List.set_cons_zero, List.set_cons_succ]
        refine wpAnyH_ready (rs := [20]) (by kernel_rfl) (by simp) ?_
        refine AllReadyH.cons (o := ({ dst := (some 76), op := (Op.call { callee := (Callee.value (Operand.func 46)), args := #[(Operand.tmp 56), (Operand.tmp 75)], argTypes := #[50, 77] }), type := 0, pos := "ref.go:139", after := #[{ on := 0, ground := Ground.data }, { on := 19, ground := Ground.data }, { on := 18, ground := Ground.chain }], guard := none } : Oper)) rfl (fun K hK => ?_) AllReadyH.nil
        go_simp
        have HMB := Aside0.mk (show Bytes M2 from by rw [← HM2.out.1, ← HM1.out.1, ← H9.out.1]; intro y hy; rcases List.mem_append.1 hy with h | h; exact HPB.out.2.2 y (List.mem_of_mem_take h); exact HFB.out.2 y (List.mem_of_mem_drop h)); have HPA := Aside0.mk (Hp.adopt HP.out (i + 2) g { R with firm := F, soft := [] } ex2 HSG.out pn HM2.out.2 HMB.out); clear HP; have HP := Aside0.mk (show Hp w0 wz (.row (Kd.int .u8) 5 w0.heap.size (.slice A_b 64 c_b) nb :: .row KPt 77 w0.heap.size (.slice (some ⟨bA, oA, none⟩) R.soft.length c2) R.soft :: Rs.set i (rRef w0.heap.size g { R with firm := F, soft := [] } (⟨pn, .slice A_m 64 c_m, M2⟩ :: ex2))) from by have h : Hp w0 wz (_ :: _ :: (Rs.set i _).set i (rRef w0.heap.size g { R with firm := F, soft := [] } (⟨pn, .slice A_m 64 c_m, M2⟩ :: ex2))) := HPA.out; rw [List.set_set] at h; exact h); clear HPA; refine (CF.out ⟨pn, .slice A_m 64 c_m, M2⟩ _ _ (i + 2) (⟨pn, .slice A_m 64 c_m, M2⟩ :: ex2) HP.out (set_get (α := Res) (l := Rs) _ HI.out) List.mem_cons_self).mono ?_; rintro e w9 ⟨rfl, hpn⟩; clear HP; have HP := Aside0.mk (show Hp w0 w9 (.row (Kd.int .u8) 5 w0.heap.size (.slice A_b 64 c_b) nb :: .row KPt 77 w0.heap.size (.slice (some ⟨bA, oA, none⟩) R.soft.length c2) R.soft :: Rs.set i (rRef w0.heap.size g { R with firm := putP F ⟨pn, .slice A_m 64 c_m, M2⟩, soft := [] } (⟨pn, .slice A_m 64 c_m, M2⟩ :: ex2))) from by have h : Hp w0 w9 (_ :: _ :: (Rs.set i _).set i (rRef w0.heap.size g { R with firm := putP F ⟨pn, .slice A_m 64 c_m, M2⟩, soft := [] } (⟨pn, .slice A_m 64 c_m, M2⟩ :: ex2))) := hpn; rw [List.set_set] at h; exact h); clear hpn
        go_wp2_with fail
        clear hHeld
        refine hK.out _ _ ?_ (fun hHeld => ?_)
        · (try dsimp only); first | exact HC.out _ _ 1 HP.out rfl | exact HC.out _ _ 2 HP.out rfl
        clear hK K
        try simp only [Act.put, List.setIfInBounds_toArray, List.set_cons_zero, List.set_cons_succ]
        refine wpAnyH_done (by kernel_rfl) ?_ _
        clear hHeld
        have HGG := Aside0.mk (show crashG keep (nbP (R.soft.drop (j + 1))) (j + 1) 0 (firmB (putP F ⟨pn, .slice A_m 64 c_m, M2⟩)) = crashG keep (nbP R.soft) 0 torn (firmB R.firm) from by
          rw [← HF.out.2.2.2, HG.out, if_neg HNK.out, firmB_put _ HF.out.1, HNB.out, HM1.out.1, H9.out.1, HM2.out.1])
        go_wp2_with fail
        have HPn := Aside0.mk HP.out.drop1
        clear HP
        go_roundg (gk - 1)
        case measure => have := HK.out; have := HJ.out.1; omega
        case rel => exact ⟨j + 1, x + 1, 0, putP F ⟨pn, .slice A_m 64 c_m, M2⟩, ⟨pn, .slice A_m 64 c_m, M2⟩ :: ex2, rfl, rfl, ⟨by have := HX.out; omega⟩, ⟨by have := HK.out; have := HJ.out.1; omega⟩, ⟨by decide⟩, ⟨uniq_put _ HF.out.1, by have := putP_len F ⟨pn, .slice A_m 64 c_m, M2⟩; have := HF.out.2.1; omega, fun p hp => List.mem_cons_of_mem _ (HF.out.2.2.1 p hp), HGG.out⟩, HPn⟩
      · have dt : decide (t > 0) = false := decide_eq_false ct
        have HGG := Aside0.mk (show crashG keep (nbP (R.soft.drop (j + 1))) (j + 1) 0 (firmB F) = crashG keep (nbP R.soft) 0 torn (firmB R.firm) from by
          have h0 : t.toNat = 0 := by have := HT.out; omega
          rw [← HF.out.2.2.2, HG.out, if_neg HNK.out, h0, put1_self])
        clear ct hcn hcv
        go_wp2_with fail
        go_roundg (gk - 1)
        case measure => have := HK.out; have := HJ.out.1; omega
        case rel => exact ⟨j + 1, x + 1, 0, F, ex2, rfl, rfl, ⟨by have := HX.out; omega⟩, ⟨by have := HK.out; have := HJ.out.1; omega⟩, ⟨by decide⟩, ⟨HF.out.1, by have := HF.out.2.1; omega, HF.out.2.2.1, HGG.out⟩, HP⟩
  · have d3 : decide (x < (R.soft.length : Int)) = false := decide_eq_false (by omega)
    obtain rfl : j = R.soft.length := by omega
    have HG := Aside0.mk (show firmB F = crashG keep (nbP R.soft) 0 torn (firmB R.firm) from by
      have h := HF.out.2.2.2
      rw [List.drop_length] at h
      exact h)
    obtain ⟨u1, u2, qs, hm, HP2⟩ := Hp.openR HP.out (i + 1) g { R with firm := F, soft := [] } ex2 (set_get (α := Res) (l := Rs) _ HI.out)
    have HM := Aside0.mk hm
    have HPa := Aside0.mk HP2
    have hc3 := (blk_cell (HPa.out.blk 0 rfl) 3).trans (show _ = some (Value.bool R.has) from rfl)
    have hf3 := blk_frozen (HPa.out.blk 0 rfl) 3
    have HPb := Aside0.mk (HPa.out.setCell 0 rfl 3 (.bool false))
    have hc4 := (blk_cell (HPb.out.blk 0 rfl) 4).trans (show _ = some (Value.int .i64 R.left) from rfl)
    have hf4 := blk_frozen (HPb.out.blk 0 rfl) 4
    have HPc := Aside0.mk (HPb.out.setCell 0 rfl 4 (.int .i64 0))
    have hc6 := (blk_cell (HPc.out.blk 0 rfl) 6).trans (show _ = some (Value.bool R.out) from rfl)
    have hf6 := blk_frozen (HPc.out.blk 0 rfl) 6
    have HPd := Aside0.mk (HPc.out.setCell 0 rfl 6 (.bool false))
    clear hx hk hll c1_ HP HP2 hm HPa HPb HPc hkl
    go_wp2_with fail
    go_ret
    have h := Hp.closeR (i := i + 1) { R with firm := F, soft := [], has := false, left := 0, out := false } ex2 HM.out (by rw [List.length_cons, List.length_set]; have := HI.out; omega) (show Hp w0 _ (.blk g (.cells (refC { R with firm := F, soft := [], has := false, left := 0, out := false } u1 u2).toArray 56 (0, 0)) :: .row KPt 77 w0.heap.size u1 F :: .row KPt 77 w0.heap.size u2 [] :: .all (poolL w0.heap.size qs) :: (_ :: Rs.set i _).set (i + 1) .none) from HPd.out)
    have h2 : Hp w0 _ (_ :: (Rs.set i _).set i (rRef w0.heap.size g { R with firm := F, soft := [], has := false, left := 0, out := false } ex2)) := h
    rw [List.set_set] at h2
    first | exact ⟨rfl, F, ex2, HF.out.1, HF.out.2.1, HG.out, h2.drop1⟩ | exact ⟨rfl, F, HF.out.1, HF.out.2.1, HG.out, ex2, h2.drop1⟩
end Go.Proofs.Ytejfocliopbocaa.Su
namespace Go.Proofs.Ytejfocliopbocaa.Su
open Go.Proofs.Ytejfocliopbocaa.H
open Go.RowKit Go.Proofs.Ytejfocliopbocaa.XD Go.Proofs.YtejfocliopbocaaW.PrintWords Go.Proofs.YtejfocliopbocaaW.PrintLast Go.Proofs.YtejfocliopbocaaW.PrintMore Go.Proofs.YtejfocliopbocaaXe Go.Proofs.YtejfocliopbocaaXs
set_option linter.unusedVariables false
set_option linter.unusedSimpArgs false
attribute [local go_sem ↓] Go.wp_at_zero Go.wp_at_succ
open Go.Proofs.Ytejfocliopbocaa.D hiding c_len c_new c_write
structure Sim (S : DS) (R : RS) : Prop where
  out : S.out = R.out
  many : S.many = R.many
  steps : S.steps = R.count
  fuse : S.fuse = if R.has then R.left else -1
  left : R.has = true → 0 ≤ R.left ∧ R.left ≤ 9223372036854775807
  l : S.l = nbP R.soft
  at' : S.at' = firmB R.firm
  uniq : uniqP R.firm
theorem sec_from (j : Int) : ∀ (l : List Pt) (f g : Int → List Int) (a : Option Pt), (f j = match a with | some p => p.b | none => g j) → putF f (nbP l) j = match lastF j a l with | some p => p.b | none => g j
  | [], f, g, a, h => h
  | x :: l, f, g, a, h => by
    show putF (fun k => if x.n = k then x.b else f k) (nbP l) j = match lastF j (if x.n = j then some x else a) l with | some p => p.b | none => g j
    refine sec_from j l _ g _ ?_
    by_cases e : x.n = j
    · rw [if_pos e, if_pos e]
    · rw [if_neg e, if_neg e]; exact h
theorem sim_sec {S : DS} {R : RS} (h : Sim S R) (j : Int) : sec S j = nowB R j := by
  unfold sec nowB
  rw [h.l, h.at']
  exact sec_from j R.soft (firmB R.firm) (firmB R.firm) none rfl
theorem sim_ready {S : DS} {R : RS} (h : Sim S R) (n : Int) : S.readyE n = R.readyE n := by
  unfold DS.readyE readyD RS.readyE
  rw [h.out, h.many]
theorem sim_fuse0 {S : DS} {R : RS} (h : Sim S R) : S.fuse = 0 ↔ stepB R = false := by
  have h2 := h.left
  rw [h.fuse]
  unfold stepB
  cases hh : R.has with
  | false => simp
  | true => simp
theorem sim_step {S : DS} {R : RS} (h : Sim S R) (hb : stepB R = true) : Sim S.step (stepR R) := by
  have h0 : ¬ S.fuse = 0 := fun e => by rw [(sim_fuse0 h).1 e] at hb; cases hb
  have hl := h.left
  have hf := h.fuse
  obtain ⟨f1, f2, f3⟩ := stepR_same R
  have hn : ¬ (R.has = true ∧ R.left = 0) := by
    rintro ⟨e1, e2⟩
    rw [e1, e2] at hf
    exact h0 hf
  have hs : stepR R = { R with left := if R.has then wrap64 (R.left - 1) else R.left, count := wrap64 (R.count + 1) } := by unfold stepR; rw [if_neg hn]
  rw [hs]
  refine ⟨h.out, h.many, ?_, ?_, ?_, h.l, h.at', h.uniq⟩
  · show wrap64 (S.steps + 1) = wrap64 (R.count + 1)
    rw [h.steps]
  · show burn S.fuse = if R.has then (if R.has then wrap64 (R.left - 1) else R.left) else -1
    rw [hf]
    cases hh : R.has with
    | false => rfl
    | true =>
      have h1 := hl hh
      have h2 : ¬ R.left = 0 := fun e => hn ⟨hh, e⟩
      show burn R.left = wrap64 (R.left - 1)
      unfold burn
      rw [if_pos (by omega)]
  · intro hh
    have h1 := hl hh
    have h2 : ¬ R.left = 0 := fun e => hn ⟨hh, e⟩
    show 0 ≤ (if R.has then wrap64 (R.left - 1) else R.left) ∧ (if R.has then wrap64 (R.left - 1) else R.left) ≤ 9223372036854775807
    have h3 : R.has = true := hh
    rw [if_pos h3]
    unfold wrap64
    omega
theorem sim_outd {S : DS} {R : RS} (h : Sim S R) : Sim { S with out := true } { R with out := true } := ⟨rfl, h.many, h.steps, h.fuse, h.left, h.l, h.at', h.uniq⟩
theorem stepR_false {R : RS} (h : stepB R = false) : stepR R = { R with out := true } := by
  unfold stepB at h
  unfold stepR
  rw [if_pos]
  simpa using h
theorem sim_write {S : DS} {R : RS} (h : Sim S R) (n : Int) (b : List Int) : writeE S n b = writeRE R n b ∧ ∀ v, Sim (writeS S n b) (writeR R n b v) := by
  have hr := sim_ready h n
  have hf := sim_fuse0 h
  constructor
  · unfold writeE writeRE
    rw [hr]
    split
    · rfl
    · split
      · rfl
      · by_cases e : S.fuse = 0
        · rw [if_pos e, if_pos (hf.1 e)]
        · rw [if_neg e, if_neg (fun e2 => e (hf.2 e2))]
  · intro v
    unfold writeS writeR
    rw [hr]
    split
    · exact h
    · split
      · exact h
      · by_cases e : S.fuse = 0
        · rw [if_pos e, if_pos (hf.1 e), stepR_false (hf.1 e)]
          exact sim_outd h
        · have hb : stepB R = true := by
            cases hq : stepB R with
            | true => rfl
            | false => exact absurd (hf.2 hq) e
          rw [if_neg e, if_neg (by rw [hb]; decide)]
          have h2 := sim_step h hb
          refine ⟨h2.out, h2.many, h2.steps, h2.fuse, h2.left, ?_, h2.at', h2.uniq⟩
          show S.l ++ [(n, b)] = nbP ((stepR R).soft ++ [⟨n, v, b⟩])
          rw [(stepR_same R).2.1, h.l]
          simp [nbP]
theorem firmB_fold : ∀ (l F : List Pt), uniqP F → firmB (l.foldl putP F) = putF (firmB F) (nbP l) ∧ uniqP (l.foldl putP F)
  | [], F, h => ⟨rfl, h⟩
  | p :: l, F, h => by
    obtain ⟨h1, h2⟩ := firmB_fold l (putP F p) (uniq_put p h)
    refine ⟨?_, h2⟩
    rw [List.foldl_cons, h1, firmB_put p h]
    rfl
theorem sim_flush {S : DS} {R : RS} (h : Sim S R) : flushE S = flushRE R ∧ Sim (flushS S) (flushR R) := by
  have hf := sim_fuse0 h
  constructor
  · unfold flushE flushRE
    rw [h.out]
    by_cases e : R.out = true ∨ S.fuse = 0
    · rw [if_pos e, if_pos (e.imp id hf.1)]
    · rw [if_neg e, if_neg (fun e2 => e (e2.imp id hf.2))]
  · unfold flushS flushR
    by_cases e : R.out = true
    · rw [if_pos (.inl (h.out.trans e)), if_pos e]
      have h2 : ({ S with out := true } : DS) = S := by
        have := h.out.trans e
        cases S
        simp_all
      rw [h2]
      exact h
    · by_cases e2 : S.fuse = 0
      · rw [if_pos (.inr e2), if_neg e, if_pos (hf.1 e2), stepR_false (hf.1 e2)]
        exact sim_outd h
      · have hb : stepB R = true := by
          cases hq : stepB R with
          | true => rfl
          | false => exact absurd (hf.2 hq) e2
        rw [if_neg (by rw [h.out]; rintro (h1 | h1); exact e h1; exact e2 h1), if_neg e, if_neg (by rw [hb]; decide)]
        have h2 := sim_step h hb
        obtain ⟨f1, f2, f3⟩ := stepR_same R
        have h3 := firmB_fold (stepR R).soft (stepR R).firm (by rw [f1]; exact h.uniq)
        refine ⟨h2.out, h2.many, h2.steps, h2.fuse, h2.left, rfl, ?_, h3.2⟩
        show putF S.at' S.l = firmB ((stepR R).soft.foldl putP (stepR R).firm)
        rw [h3.1, f1, f2, h.l, h.at']
theorem sim_fuse {S : DS} {R : RS} (h : Sim S R) (n : Int) (hn : n ≤ 9223372036854775807) : fuseE n = fuseRE n ∧ Sim (fuseS S n) (fuseR R n) := by
  refine ⟨rfl, ?_⟩
  unfold fuseS fuseR
  split
  · exact h
  · exact ⟨h.out, h.many, h.steps, rfl, fun _ => ⟨by show 0 ≤ n; omega, hn⟩, h.l, h.at', h.uniq⟩
theorem sim_crash {S : DS} {R : RS} (h : Sim S R) (keep : List Bool) (torn : Int) (ht : ¬ (torn < 0 ∨ 64 ≤ torn)) (F : List Pt) (hu : uniqP F) (hF : firmB F = crashG keep (nbP R.soft) 0 torn (firmB R.firm)) : Sim (crashS S keep torn) { R with firm := F, soft := [], has := false, left := 0, out := false } := by
  unfold crashS
  rw [if_neg ht]
  refine ⟨rfl, h.many, h.steps, rfl, fun e => absurd (show false = true from e) (by decide), rfl, ?_, hu⟩
  show crashG keep S.l 0 torn S.at' = firmB F
  rw [hF, h.l, h.at']
theorem sim_new (n : Int) : Sim (newS n) (newR n) := ⟨rfl, rfl, rfl, rfl, fun e => absurd (show false = true from e) (by decide), rfl, rfl, List.nodup_nil⟩
theorem okD_write {S : DS} (h : okD S) (hl : S.l.length ≤ 900) (n : Int) (b : List Int) (hB : Bytes b) : okD (writeS S n b) ∧ (writeS S n b).l.length ≤ S.l.length + 1 := by
  unfold writeS
  split
  · exact ⟨h, by omega⟩
  · split
    · exact ⟨h, by omega⟩
    · rename_i h64
      split
      · exact ⟨h, by show S.l.length ≤ S.l.length + 1; omega⟩
      · refine ⟨⟨h.1, fun p hp => ?_, ?_⟩, ?_⟩
        · rcases List.mem_append.1 hp with hp | hp
          · exact h.2.1 p hp
          · rw [List.mem_singleton.1 hp]; exact ⟨by simpa using h64, hB⟩
        · show (S.l ++ [(n, b)]).length ≤ 1000
          rw [List.length_append]; simp; omega
        · show (S.l ++ [(n, b)]).length ≤ S.l.length + 1
          rw [List.length_append]; simp
theorem okD_flush {S : DS} (h : okD S) : okD (flushS S) ∧ (flushS S).l.length ≤ S.l.length := by
  unfold flushS
  split
  · exact ⟨h, Nat.le_refl _⟩
  · exact ⟨⟨fun k => sec_ok h k, fun p (hp : p ∈ ([] : List (Int × List Int))) => by simp at hp, Nat.zero_le _⟩, Nat.zero_le _⟩
theorem okD_fuse {S : DS} (h : okD S) (n : Int) : okD (fuseS S n) ∧ (fuseS S n).l.length ≤ S.l.length := by
  unfold fuseS
  split
  · exact ⟨h, Nat.le_refl _⟩
  · exact ⟨h, Nat.le_refl _⟩
theorem crashG_ok (keep : List Bool) : ∀ (l : List (Int × List Int)) (i : Nat) (t : Int) (f : Int → List Int), 0 ≤ t ∧ t < 64 → (∀ p ∈ l, p.2.length = 64 ∧ Bytes p.2) → (∀ k, (f k).length = 64 ∧ Bytes (f k)) → ∀ k, (crashG keep l i t f k).length = 64 ∧ Bytes (crashG keep l i t f k)
  | [], i, t, f, _, _, h => h
  | p :: l, i, t, f, ht, hl, h => by
    have hp := hl p List.mem_cons_self
    have hl' : ∀ p ∈ l, p.2.length = 64 ∧ Bytes p.2 := fun q hq => hl q (List.mem_cons_of_mem _ hq)
    rw [crashG]
    split
    · refine crashG_ok keep l _ t _ ht hl' fun k => ?_
      unfold put1
      split
      · exact hp
      · exact h k
    · refine crashG_ok keep l _ 0 _ ⟨by decide, by decide⟩ hl' fun k => ?_
      unfold put1
      split
      · refine ⟨torn_len hp.1 (h _).1 ht.1 ht.2, fun x hx => ?_⟩
        rcases List.mem_append.1 hx with h1 | h1
        · exact hp.2 x (List.mem_of_mem_take h1)
        · exact (h _).2 x (List.mem_of_mem_drop h1)
      · exact h k
theorem okD_crash {S : DS} (h : okD S) (keep : List Bool) (t : Int) : okD (crashS S keep t) ∧ (crashS S keep t).l.length ≤ S.l.length := by
  unfold crashS
  split
  · exact ⟨h, Nat.le_refl _⟩
  · rename_i ht
    exact ⟨⟨crashG_ok keep S.l 0 t S.at' (by omega) h.2.1 h.1, fun p (hp : p ∈ ([] : List (Int × List Int))) => by simp at hp, Nat.zero_le _⟩, Nat.zero_le _⟩
theorem okD_new (n : Int) : okD (newS n) := ⟨fun k => ⟨rfl, s64'_b⟩, fun p hp => by simp [newS] at hp, by show ([] : List (Int × List Int)).length ≤ 1000; decide⟩
theorem firm_len_write (R : RS) (n : Int) (b : List Int) (v : Value) : (writeR R n b v).firm = R.firm ∧ (writeR R n b v).soft.length ≤ R.soft.length + 1 := by
  obtain ⟨f1, f2, f3⟩ := stepR_same R
  unfold writeR
  split
  · exact ⟨rfl, by omega⟩
  · split
    · exact ⟨rfl, by omega⟩
    · split
      · exact ⟨f1, by rw [f2]; omega⟩
      · exact ⟨f1, by show ((stepR R).soft ++ [_]).length ≤ _; rw [f2, List.length_append]; simp⟩
theorem firm_len_flush (R : RS) : (flushR R).firm.length ≤ R.firm.length + R.soft.length ∧ (flushR R).soft.length ≤ R.soft.length := by
  obtain ⟨f1, f2, f3⟩ := stepR_same R
  unfold flushR
  split
  · exact ⟨by omega, Nat.le_refl _⟩
  · split
    · rw [f1, f2]; exact ⟨by omega, Nat.le_refl _⟩
    · have h1 := foldP_len (stepR R).soft (stepR R).firm
      rw [f1, f2] at h1
      exact ⟨by show ((stepR R).soft.foldl putP (stepR R).firm).length ≤ _; rw [f1, f2]; exact h1, Nat.zero_le _⟩
end Go.Proofs.Ytejfocliopbocaa.Su
namespace Go.Proofs.Ytejfocliopbocaa.Su
open Go.Proofs.Ytejfocliopbocaa.H
open Go.RowKit Go.Proofs.Ytejfocliopbocaa.XD Go.Proofs.YtejfocliopbocaaW.PrintWords Go.Proofs.YtejfocliopbocaaW.PrintLast Go.Proofs.YtejfocliopbocaaW.PrintMore Go.Proofs.YtejfocliopbocaaXe Go.Proofs.YtejfocliopbocaaXs
set_option linter.unusedVariables false
set_option linter.unusedSimpArgs false
attribute [local go_sem ↓] Go.wp_at_zero Go.wp_at_succ
open Go.Proofs.Ytejfocliopbocaa.D hiding c_len c_new c_write
def okA (x : XD.S43) : Prop := x.f2.length ≤ 100 ∧ x.f3.length ≤ 100
theorem large_l0 (l : List XD.S43) (hl : l.length ≤ 9223372036854775807) : ∀ (d i : Nat), i + d = 62 → (∀ x ∈ l.take i, okA x) → ∃ k r, XD.retconlaw12_large.l0 k l (i : Int) = some r ∧ (r = false → l.length ≤ 60 ∧ ∀ x ∈ l, okA x) := by
  intro d
  induction d with
  | zero =>
    intro i hi hok
    refine ⟨2, decide ((l.length : Int) > 60), ?_, fun h => ?_⟩
    · obtain rfl : i = 62 := by omega
      unfold XD.retconlaw12_large.l0
      split
      · rw [show decide (((62 : Nat) : Int) < 61) = false from by decide]
        simp [XD.retconlaw12_large.j1]
      · simp [XD.retconlaw12_large.j1]
    · have h1 : l.length ≤ 60 := by have h9 := of_decide_eq_false h; omega
      exact ⟨h1, fun x hx => hok x (by rw [List.take_of_length_le (by omega)]; exact hx)⟩
  | succ d ih =>
    intro i hi hok
    by_cases c1 : i < l.length
    · by_cases c2 : i < 61
      · have hrd : XD.rd_T43 l (i : Int) = l[i] := by unfold XD.rd_T43; rw [Int.toNat_natCast, List.getD_eq_getElem?_getD, List.getElem?_eq_getElem c1]; rfl
        have hd : decide ((i : Int) < 61) = true := decide_eq_true (by omega)
        by_cases c3 : (l[i].f2.length : Int) > 100
        · refine ⟨3, true, ?_, fun h => by cases h⟩
          unfold XD.retconlaw12_large.l0
          rw [if_pos (by omega), hd]
          unfold XD.retconlaw12_large.j1
          rw [if_pos rfl, if_pos (by omega), if_pos (by omega), hrd, if_pos c3]
          simp [XD.retconlaw12_large.j2]
        · by_cases c4 : (l[i].f3.length : Int) > 100
          · refine ⟨3, true, ?_, fun h => by cases h⟩
            unfold XD.retconlaw12_large.l0
            rw [if_pos (by omega), hd]
            unfold XD.retconlaw12_large.j1
            rw [if_pos rfl, if_pos (by omega), if_pos (by omega), hrd, if_neg c3, decide_eq_true c4]
            simp [XD.retconlaw12_large.j2]
          · obtain ⟨k, r, h1, h2⟩ := ih (i + 1) (by omega) (fun x hx => by
              rw [List.take_succ_eq_append_getElem c1] at hx
              rcases List.mem_append.1 hx with h | h
              · exact hok x h
              · rw [List.mem_singleton.1 h]; exact ⟨by omega, by omega⟩)
            refine ⟨k + 3, r, ?_, h2⟩
            unfold XD.retconlaw12_large.l0
            rw [if_pos (by omega), hd]
            unfold XD.retconlaw12_large.j1
            rw [if_pos rfl, if_pos (by omega), if_pos (by omega), hrd, if_neg c3, decide_eq_false c4]
            unfold XD.retconlaw12_large.j2
            rw [if_neg (by decide), show wrap64 ((i : Int) + 1) = ((i + 1 : Nat) : Int) from by unfold wrap64; omega]
            exact h1
      · refine ⟨2, decide ((l.length : Int) > 60), ?_, fun h => ?_⟩
        · unfold XD.retconlaw12_large.l0
          rw [if_pos (by omega), decide_eq_false (by omega)]
          simp [XD.retconlaw12_large.j1]
        · have h1 : l.length ≤ 60 := by have h9 := of_decide_eq_false h; omega
          omega
    · refine ⟨2, decide ((l.length : Int) > 60), ?_, fun h => ?_⟩
      · unfold XD.retconlaw12_large.l0
        rw [if_neg (by omega)]
        simp [XD.retconlaw12_large.j1]
      · have h1 : l.length ≤ 60 := by have h9 := of_decide_eq_false h; omega
        exact ⟨h1, fun x hx => hok x (by rw [List.take_of_length_le (by omega)]; exact hx)⟩
theorem large_tells (l : List XD.S43) (hl : l.length ≤ 9223372036854775807) : ∃ k r, XD.retconlaw12_large.f k l = some r ∧ (r = false → l.length ≤ 60 ∧ ∀ x ∈ l, okA x) := large_l0 l hl 62 0 rfl (fun x hx => by simp at hx)
structure Inv (S : DS) (R : RS) (j : Nat) : Prop where
  sim : Sim S R
  ok : okD S
  l : S.l.length ≤ j
  f : R.firm.length ≤ 100 * j
  j : j ≤ 80
theorem Inv.soft {S : DS} {R : RS} {j : Nat} (h : Inv S R j) : R.soft.length = S.l.length := by rw [h.sim.l]; simp [nbP]
theorem inv_new (n : Int) : Inv (newS n) (newR n) 0 := ⟨sim_new n, okD_new n, Nat.le_refl 0, Nat.le_refl 0, by decide⟩
theorem inv_same {S : DS} {R : RS} {j : Nat} (h : Inv S R j) (hj : j < 80) : Inv S R (j + 1) := ⟨h.sim, h.ok, by have := h.l; omega, by have := h.f; omega, hj⟩
theorem inv_write {S : DS} {R : RS} {j : Nat} (h : Inv S R j) (hj : j < 80) (n : Int) (b : List Int) (hB : Bytes b) (v : Value) : writeE S n b = writeRE R n b ∧ Inv (writeS S n b) (writeR R n b v) (j + 1) := by
  have h1 := sim_write h.sim n b
  have h2 := okD_write h.ok (by have := h.l; omega) n b hB
  have h3 := firm_len_write R n b v
  exact ⟨h1.1, h1.2 v, h2.1, by have := h.l; have := h2.2; omega, by rw [h3.1]; have := h.f; omega, hj⟩
theorem inv_fuse {S : DS} {R : RS} {j : Nat} (h : Inv S R j) (hj : j < 80) (n : Int) (hn : n ≤ 9223372036854775807) : fuseE n = fuseRE n ∧ Inv (fuseS S n) (fuseR R n) (j + 1) := by
  have h1 := sim_fuse h.sim n hn
  have h2 := okD_fuse h.ok n
  refine ⟨h1.1, h1.2, h2.1, by have := h.l; have := h2.2; omega, ?_, hj⟩
  have := h.f
  unfold fuseR
  split <;> (try dsimp only) <;> omega
theorem inv_crash {S : DS} {R R' : RS} {j : Nat} (h : Inv S R j) (hj : j < 80) (keep : List Bool) (t : Int) (hs : Sim (crashS S keep t) R') (hl : R'.firm.length ≤ R.firm.length + R.soft.length) : Inv (crashS S keep t) R' (j + 1) := by
  have h2 := okD_crash h.ok keep t
  exact ⟨hs, h2.1, by have := h.l; have := h2.2; omega, by have := h.f; have := h.soft; have := h.l; omega, hj⟩
theorem inv_flush {S : DS} {R : RS} {j : Nat} (h : Inv S R j) (hj : j < 80) : flushE S = flushRE R ∧ Inv (flushS S) (flushR R) (j + 1) := by
  have h1 := sim_flush h.sim
  have h2 := okD_flush h.ok
  have h3 := firm_len_flush R
  exact ⟨h1.1, h1.2, h2.1, by have := h.l; have := h2.2; omega, by have := h.f; have := h.soft; have := h.l; have := h3.1; omega, hj⟩
theorem c_crashD {w0 w : World} {Rs : List Res} (HP : Hp w0 w Rs) (i g : Nat) (S : DS) (hi : Rs[i]? = some (rDisk w0.heap.size g S)) (Ak : Option Addr) (ck : Nat) (keep : List Bool) (hkl : keep.length ≤ 9223372036854775807) (hB : Rd Kd.bool w0 Rs i Ak keep.length keep) (torn : Int) (hl : S.l.length ≤ 1000000) :
    Calls Try.prog 13 #[.pointer (some ⟨g, 0, none⟩), .slice Ak keep.length ck, .int .i64 torn] w fun e w' => e = .returned (.int .i64 (crashE torn)) ∧ Hp w0 w' (Rs.set i (rDisk w0.heap.size g (crashS S keep torn))) := by
  unfold crashE crashS
  by_cases h : torn < 0 ∨ 64 ≤ torn
  · rw [if_pos h, if_pos h, set_self hi]
    exact (c_crashE HP i g S hi _ torn h).mono fun e w' ⟨h1, h2⟩ => ⟨h1, by rw [h2]; exact HP⟩
  · rw [if_neg h, if_neg h]
    exact c_crash HP i g S hi Ak ck keep hkl hB torn (by omega) hl
theorem c_rcrashD {w0 w : World} {Rs : List Res} (HP : Hp w0 w Rs) (i g : Nat) (R : RS) (ex : List Pt) (hi : Rs[i]? = some (rRef w0.heap.size g R ex)) (S : DS) (j : Nat) (hI : Inv S R j) (hj : j < 80) (Ak : Option Addr) (ck : Nat) (keep : List Bool) (hkl : keep.length ≤ 9223372036854775807) (hB : ∀ w' : World, Below w0.heap.size w0 w' → Kd.C Kd.bool w' Ak keep.length keep) (torn : Int) :
    Calls Try.prog 42 #[.pointer (some ⟨g, 0, none⟩), .slice Ak keep.length ck, .int .i64 torn] w fun e w' => e = .returned (.int .i64 (crashE torn)) ∧ ∃ R' ex', Inv (crashS S keep torn) R' (j + 1) ∧ Hp w0 w' (Rs.set i (rRef w0.heap.size g R' ex')) := by
  by_cases h : torn < 0 ∨ 64 ≤ torn
  · refine (c_rcrashE HP i g R ex hi _ torn (by omega)).mono ?_
    rintro e w' ⟨h1, rfl⟩
    refine ⟨by unfold crashE; rw [if_pos h]; exact h1, R, ex, inv_crash hI hj keep torn ?_ (by omega), by rw [set_self hi]; exact HP⟩
    unfold crashS
    rw [if_pos h]
    exact hI.sim
  · refine (c_rcrash HP i g R ex hi (by have := hI.soft; have := hI.l; omega) (by have := hI.f; have := hI.j; omega) hI.sim.uniq Ak ck keep hkl hB torn (by omega)).mono ?_
    rintro e w' ⟨h1, F, ex2, hu, hF, hf, hp⟩
    exact ⟨by unfold crashE; rw [if_neg h]; exact h1, _, ex2, inv_crash hI hj keep torn (sim_crash hI.sim keep torn h F hu hf) hF, hp⟩
end Go.Proofs.Ytejfocliopbocaa.Su
