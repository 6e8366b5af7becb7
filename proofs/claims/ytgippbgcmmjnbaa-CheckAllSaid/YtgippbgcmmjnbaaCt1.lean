import Derived.Test.YtgippbgcmmjnbaaTh1
import Derived.Test.YtgippbgcmmjnbaaXs
import Derived.Test.YtgippbgcmmjnbaaXBgbase
namespace Go.Proofs.Ytgippbgcmmjnbaa.Ct
open Go.RowKit Go.Proofs.Ytgippbgcmmjnbaa.XB Go.Proofs.Ytgippbgcmmjnbaa.Th Go.Proofs.YtgippbgcmmjnbaaW.PrintWords Go.Proofs.YtgippbgcmmjnbaaW.PrintLast Go.Proofs.YtgippbgcmmjnbaaXe Go.Proofs.YtgippbgcmmjnbaaXs
set_option linter.unusedVariables false
set_option linter.unusedSimpArgs false
attribute [local go_sem ↓ high] ld27

/-- a checkpoint's cells -/
def c27 (x : S27) : List Value := (.int .i64 x.f0 :: .int .u8 x.f1.f0 :: .int .u8 x.f1.f1 :: .int .u8 x.f1.f2 :: .int .u8 x.f1.f3 :: .int .u8 x.f1.f4 :: .int .u8 x.f1.f5 :: .int .u8 x.f1.f6 :: .int .u8 x.f1.f7 :: .int .u8 x.f1.f8 :: .int .u8 x.f1.f9 :: .int .u8 x.f1.f10 :: .int .u8 x.f1.f11 :: .int .u8 x.f1.f12 :: .int .u8 x.f1.f13 :: .int .u8 x.f1.f14 :: .int .u8 x.f1.f15 :: .int .u8 x.f1.f16 :: .int .u8 x.f1.f17 :: .int .u8 x.f1.f18 :: .int .u8 x.f1.f19 :: .int .u8 x.f1.f20 :: .int .u8 x.f1.f21 :: .int .u8 x.f1.f22 :: .int .u8 x.f1.f23 :: .int .u8 x.f1.f24 :: .int .u8 x.f1.f25 :: .int .u8 x.f1.f26 :: .int .u8 x.f1.f27 :: .int .u8 x.f1.f28 :: .int .u8 x.f1.f29 :: .int .u8 x.f1.f30 :: .int .u8 x.f1.f31 :: [])
def rest27 (x : S27) : List Value := (c27 x).tail
theorem c27_eq (x : S27) : c27 x = .int .i64 x.f0 :: rest27 x := rfl
theorem c27_len (x : S27) : (c27 x).length = 33 := rfl
theorem hi27 (x : S27) : (Try.prog.info? 27).map (·.size) = some (c27 x).toArray.size := by
  rw [List.size_toArray, c27_len]; kernel_rfl
theorem one27 (x : S27) : (c27 x).toArray.all (·.oneCell') = true := by
  rw [show (c27 x).toArray.all (·.oneCell') = (c27 x).all (·.oneCell') from by simp]
  rfl
theorem zero27 : (Try.prog.info? 27).map (·.zero) = some (some (.agg (c27 z27).toArray)) := by kernel_rfl
theorem K27 (w : World) (x : S27) : k27.K w x (c27 x) := k27_mk w x
theorem K27_eq {w : World} {x : S27} {cs : List Value} (h : k27.K w x cs) : cs = c27 x := k27_open h
theorem ld_at {w : World} {A : Option Addr} {n : Nat} {xs : List S27} (h : Kd.C k27 w A n xs) (i : Int) (h0 : 0 ≤ i) (h1 : i < n) : ∃ ad, A = some ad ∧ w.cell? (ad.add (i.toNat * 33)) = some (.int .i64 (rd_T27 xs i).f0) ∧ (LD27 (.pointer (some (ad.add (i.toNat * 33))))).run Try.prog w = .ok (.agg (c27 (rd_T27 xs i)).toArray) w := by
  obtain ⟨ad, c, e, _, hK, hc⟩ := Kd.C_get h z27 i h0 h1
  obtain rfl := K27_eq hK
  have hc' : ∀ j u, (c27 (rd_T27 xs i))[j]? = some u → w.cell? ((ad.add (i.toNat * 33)).add j) = some u := fun j u hu => by
    have := hc j u hu
    rwa [show ad.add (i.toNat * k27.sz + j) = (ad.add (i.toNat * 33)).add j from (add_add _ _ _).symm] at this
  refine ⟨ad, e, hc 0 _ rfl, ?_⟩
  exact Go.Proofs.YtgippbgcmmjnbaaXa.ldrow hc' Try.underlying27 (by rfl) (by rw [show (Try.prog.info? 27).map (·.size) = some 33 by kernel_rfl, c27_len])

/-! ### what the functions answer -/
section
variable (A : Option Addr) (c : Nat) (l : List S27) (w : World) (hr : Kd.C k27 w A l.length l) (hc : l.length ≤ c) (hb : l.length ≤ 1000000)
include hr hc
theorem c_may (n : Int) : Calls Try.prog 20 #[.slice A l.length c, .int .i64 n] w fun e w' => e = .returned (.int .i64 (mayS l n)) ∧ Below w.heap.size w w' := by
  obtain ⟨k, hk⟩ := (may l n).out
  exact check_May.calls k A c l n _ w hr hc hk
include hb
theorem c_rmay (n : Int) : Calls Try.prog 21 #[.slice A l.length c, .int .i64 n] w fun e w' => e = .returned (.int .i64 (mayS l n)) ∧ Below w.heap.size w w' := by
  obtain ⟨k, hk⟩ := (rmay l n hb).out
  exact (retconref23_May.calls k A c l n _ w hr hc hk).mono fun e w' ⟨h1, h2⟩ => ⟨h1, h2.below⟩
theorem c_kept (n : Int) : Calls Try.prog 11 #[.slice A l.length c, .int .i64 n] w fun e w' => ∃ v, e = .returned v ∧ Kd.R k27 27 w' w.heap.size (fun _ => True) v (keptS l n) ∧ Below w.heap.size w w' := by
  obtain ⟨k, hk⟩ := (kept l n hb).out
  exact check_Kept.calls k A c l n _ w hr hc hk
theorem c_rkept (n : Int) : Calls Try.prog 13 #[.slice A l.length c, .int .i64 n] w fun e w' => ∃ v, e = .returned v ∧ Kd.R k27 27 w' w.heap.size (fun _ => True) v (keptS l n) ∧ Below w.heap.size w w' := by
  obtain ⟨k, hk⟩ := (rkept l n hb).out
  exact retconref23_Kept.calls k A c l n _ w hr hc hk
omit hb
theorem c_miss (n : Int) : Calls Try.prog 15 #[.slice A l.length c, .int .i64 n] w fun e w' => ∃ v, e = .returned v ∧ Kd.R (Kd.int .i64) 3 w' w.heap.size (fun _ => True) v (missS l n) ∧ Below w.heap.size w w' := by
  obtain ⟨k, hk⟩ := (miss l n).out
  exact check_Missing.calls k A c l n _ w hr hc hk
include hb
theorem c_rmiss (n : Int) : Calls Try.prog 16 #[.slice A l.length c, .int .i64 n] w fun e w' => ∃ v, e = .returned v ∧ Kd.R (Kd.int .i64) 3 w' w.heap.size (fun _ => True) v (missS l n) ∧ Below w.heap.size w w' := by
  obtain ⟨k, hk⟩ := (rmiss l n hb).out
  exact retconref23_Missing.calls k A c l n _ w hr hc hk
theorem c_rhas (n : Int) : Calls Try.prog 34 #[.slice A l.length c, .int .i64 n] w fun e w' => e = .returned (.bool (check_Missing.hasB l n)) ∧ Below w.heap.size w w' := by
  obtain ⟨k, hk⟩ := (rhas l n hb).out
  exact (retconref23_has.calls k A c l n _ w hr hc hk).mono fun e w' ⟨h1, h2⟩ => ⟨h1, h2.below⟩
theorem c_copy : Calls Try.prog 8 #[.slice A l.length c] w fun e w' => ∃ v, e = .returned v ∧ Kd.R k27 27 w' w.heap.size (fun _ => True) v l ∧ Below w.heap.size w w' :=
  retconkit_CopyMarks.calls A c l l w hr hc (copy l hb)
theorem c_same (A2 : Option Addr) (c2 : Nat) (hr2 : Kd.C k27 w A2 l.length l) (hc2 : l.length ≤ c2) : Calls Try.prog 12 #[.slice A l.length c, .slice A2 l.length c2] w fun e w' => e = .returned (.bool true) ∧ Below w.heap.size w w' := by
  obtain ⟨k, hk⟩ := (sameMarks l hb).out
  exact (retconkit_SameMarks.calls k A c l A2 c2 l true w hr hc hr2 hc2 hk).mono fun e w' ⟨h1, h2⟩ => ⟨h1, h2.below⟩
end
theorem c_sameI (A A2 : Option Addr) (c c2 : Nat) (l : List Int) (w : World) (hr : Kd.C (Kd.int .i64) w A l.length l) (hc : l.length ≤ c) (hb : l.length ≤ 1000000) (hr2 : Kd.C (Kd.int .i64) w A2 l.length l) (hc2 : l.length ≤ c2) : Calls Try.prog 14 #[.slice A l.length c, .slice A2 l.length c2] w fun e w' => e = .returned (.bool true) ∧ Below w.heap.size w w' := by
  obtain ⟨k, hk⟩ := (sameInts l hb).out
  exact (retconkit_SameInts.calls k A c l A2 c2 l true w hr hc hr2 hc2 hk).mono fun e w' ⟨h1, h2⟩ => ⟨h1, h2.below⟩
theorem c_places (n : Int) (w : World) : Calls Try.prog 18 #[.int .i64 n] w fun e w' => ∃ v, e = .returned v ∧ Kd.R (Kd.int .i64) 3 w' w.heap.size (fun _ => True) v (placesS n) ∧ Below w.heap.size w w' :=
  check_Places.calls n _ w (places n)
theorem c_rplaces (n : Int) (w : World) : Calls Try.prog 19 #[.int .i64 n] w fun e w' => ∃ v, e = .returned v ∧ Kd.R (Kd.int .i64) 3 w' w.heap.size (fun _ => True) v (placesS n) ∧ Below w.heap.size w w' := by
  obtain ⟨k, hk⟩ := (rplaces n).out
  exact retconref23_Places.calls k n _ w hk

/-! ### Nearest -/
def nearS (l : List S27) (a : Int) : S27 × Bool := match (keptS l a).getLast? with | none => (z27, false) | some m => (m, true)
theorem keptS_len (l : List S27) (a : Int) : (keptS l a).length ≤ l.length := by
  unfold keptS
  split
  · exact List.length_filter_le _ _
  · simp
set_option maxHeartbeats 8000000 in
set_option maxRecDepth 100000 in
theorem c_near (A : Option Addr) (c : Nat) (l : List S27) (w : World) (hr : Kd.C k27 w A l.length l) (hc : l.length ≤ c) (hb : l.length ≤ 1000000) (a : Int) :
    Calls Try.prog 9 #[.slice A l.length c, .int .i64 a] w fun e w' => e = .returned (.tuple #[.agg (c27 (nearS l a).1).toArray, .bool (nearS l a).2]) ∧ Below w.heap.size w w' := by
  have HR := Aside0.mk hr
  have HC := Aside0.mk hc
  have HL := Aside0.mk hb
  have hql := keptS_len l a
  have CK := fun (w1 : World) (h1 : Kd.C k27 w1 A l.length l) => c_kept A c l w1 h1 hc hb a
  have hn : nearS l a = match (keptS l a).getLast? with | none => (z27, false) | some m => (m, true) := rfl
  generalize keptS l a = q at hql hn CK
  generalize nearS l a = r at hn
  have hqb : q.length ≤ 1000000 := Nat.le_trans hql hb
  have CKK := Aside0.mk CK
  clear hr hc hb CK hql
  have HP := Aside0.mk (Hp.start w)
  rcases List.eq_nil_or_concat q with rfl | ⟨Q, m, rfl⟩
  · simp only [List.getLast?_nil] at hn
    subst hn
    go_enter Try.func9, Try.ntmps9
    go_wp2_with (first | ((with_reducible refine gate_dst (N := 4) rfl ?_); refine ev_alloc rfl 27 rfl _ zero27 ?_; intro g w1 hge hg hb; have HP1 := Aside0.mk (HP.out.newB hb hg hge); clear HP; have HP := HP1; clear HP1; clear hge hg hb) | (go_at_call 11; refine (CKK.out _ (Kd.C_below HR.out HP.out.below)).mono ?_; rintro e w2 ⟨v, rfl, ho, hb⟩; obtain ⟨A6, c6, rfl, hlc6, hC6⟩ := Kd.R_reads ho; have HP2 := Aside0.mk (HP.out.call hb); clear HP; have HP := HP2; clear HP2; clear ho hb hlc6 hC6) | ((with_reducible refine gate_store (t := 27) (p := 4) rfl ?_); refine ev_store rfl 27 (.tmp 4) (.tmp 13) rfl rfl _ rfl (cells := (c27 z27).toArray) rfl (HP.out.blk 0 rfl) (hi27 _) rfl (one27 _) ?_; intro w3 hg hgr; have HP3 := Aside0.mk (HP.out.setB 0 rfl hgr hg); clear HP; have HP := HP3; clear HP3; clear hg hgr))
    exact bodyPost_ret (results_ct rfl _ _ _ 27 (c27 z27).toArray (0, 0) _ rfl (HP.out.blk 0 rfl) Try.underlying27 rfl (hi27 _)) rfl ⟨rfl, HP.out.below⟩
  · simp only [List.concat_eq_append] at hn CKK hqb
    rw [List.getLast?_append] at hn
    simp only [List.getLast?_singleton, Option.some_or] at hn
    subst hn
    have e1 : (Q ++ [m]).length = Q.length + 1 := by simp
    have e2 : (((Q ++ [m]).length : Int) == 0) = false := by rw [e1]; simp; omega
    have e3 : IntKind.i64.wrap (((Q ++ [m]).length : Int) - 1) = (Q.length : Int) := by rw [e1, i64_w, wr (by rw [e1] at hqb; omega)]; omega
    have e4 : rd_T27 (Q ++ [m]) (Q.length : Int) = m := rd_mid Q m [] rfl
    have k0 : (0 : Int) ≤ (Q.length : Int) := by omega
    have k1 : (Q.length : Int) < ((Q ++ [m]).length : Int) := by rw [e1]; omega
    have E4 := Aside0.mk e4
    have E1 := Aside0.mk e1
    clear e4 e1
    go_enter Try.func9, Try.ntmps9
    go_wp2_with (first | ((with_reducible refine gate_dst (N := 4) rfl ?_); refine ev_alloc rfl 27 rfl _ zero27 ?_; intro g w1 hge hg hb; have HP1 := Aside0.mk (HP.out.newB hb hg hge); clear HP; have HP := HP1; clear HP1; clear hge hg hb) | (go_at_call 11; refine (CKK.out _ (Kd.C_below HR.out HP.out.below)).mono ?_; rintro e w2 ⟨v, rfl, ho, hb⟩; obtain ⟨A6, c6, rfl, hlc6, hC6⟩ := Kd.R_reads ho; have HP2 := Aside0.mk (HP.out.call hb); clear HP; have HP := HP2; clear HP2; obtain ⟨ad, rfl, hx, hld⟩ := ld_at hC6 (Q.length : Int) k0 k1; rw [E4.out, Int.toNat_natCast] at hld; clear ho hb hlc6 hC6 hx) | ((with_reducible refine gate_store (t := 27) (p := 4) rfl ?_); refine ev_store rfl 27 (.tmp 4) (.tmp 19) rfl rfl _ rfl (cells := (c27 m).toArray) rfl (HP.out.blk 0 rfl) (hi27 _) rfl (one27 _) ?_; intro w3 hg hgr; have HP3 := Aside0.mk (HP.out.setB 0 rfl hgr hg); clear HP; have HP := HP3; clear HP3; clear hg hgr))
    exact bodyPost_ret (results_ct rfl _ _ _ 27 (c27 m).toArray (0, 0) _ rfl (HP.out.blk 0 rfl) Try.underlying27 rfl (hi27 _)) rfl ⟨rfl, HP.out.below⟩
set_option maxHeartbeats 8000000 in
set_option maxRecDepth 100000 in
theorem c_rnear (A : Option Addr) (c : Nat) (l : List S27) (w : World) (hr : Kd.C k27 w A l.length l) (hc : l.length ≤ c) (hb : l.length ≤ 1000000) (a : Int) :
    Calls Try.prog 10 #[.slice A l.length c, .int .i64 a] w fun e w' => e = .returned (.tuple #[.agg (c27 (nearS l a).1).toArray, .bool (nearS l a).2]) ∧ Below w.heap.size w w' := by
  have HR := Aside0.mk hr
  have HC := Aside0.mk hc
  have HL := Aside0.mk hb
  have hql := keptS_len l a
  have CK := fun (w1 : World) (h1 : Kd.C k27 w1 A l.length l) => c_rkept A c l w1 h1 hc hb a
  have hn : nearS l a = match (keptS l a).getLast? with | none => (z27, false) | some m => (m, true) := rfl
  generalize keptS l a = q at hql hn CK
  generalize nearS l a = r at hn
  have hqb : q.length ≤ 1000000 := Nat.le_trans hql hb
  have CKK := Aside0.mk CK
  clear hr hc hb CK hql
  have HP := Aside0.mk (Hp.start w)
  rcases List.eq_nil_or_concat q with rfl | ⟨Q, m, rfl⟩
  · simp only [List.getLast?_nil] at hn
    subst hn
    go_enter Try.func10, Try.ntmps10
    go_wp2_with (first | ((with_reducible refine gate_dst (N := 4) rfl ?_); refine ev_alloc rfl 27 rfl _ zero27 ?_; intro g w1 hge hg hb; have HP1 := Aside0.mk (HP.out.newB hb hg hge); clear HP; have HP := HP1; clear HP1; clear hge hg hb) | (go_at_call 13; refine (CKK.out _ (Kd.C_below HR.out HP.out.below)).mono ?_; rintro e w2 ⟨v, rfl, ho, hb⟩; obtain ⟨A6, c6, rfl, hlc6, hC6⟩ := Kd.R_reads ho; have HP2 := Aside0.mk (HP.out.call hb); clear HP; have HP := HP2; clear HP2; clear ho hb hlc6 hC6) | ((with_reducible refine gate_store (t := 27) (p := 4) rfl ?_); refine ev_store rfl 27 (.tmp 4) (.tmp 13) rfl rfl _ rfl (cells := (c27 z27).toArray) rfl (HP.out.blk 0 rfl) (hi27 _) rfl (one27 _) ?_; intro w3 hg hgr; have HP3 := Aside0.mk (HP.out.setB 0 rfl hgr hg); clear HP; have HP := HP3; clear HP3; clear hg hgr))
    exact bodyPost_ret (results_ct rfl _ _ _ 27 (c27 z27).toArray (0, 0) _ rfl (HP.out.blk 0 rfl) Try.underlying27 rfl (hi27 _)) rfl ⟨rfl, HP.out.below⟩
  · simp only [List.concat_eq_append] at hn CKK hqb
    rw [List.getLast?_append] at hn
    simp only [List.getLast?_singleton, Option.some_or] at hn
    subst hn
    have e1 : (Q ++ [m]).length = Q.length + 1 := by simp
    have e2 : (((Q ++ [m]).length : Int) == 0) = false := by rw [e1]; simp; omega
    have e3 : IntKind.i64.wrap (((Q ++ [m]).length : Int) - 1) = (Q.length : Int) := by rw [e1, i64_w, wr (by rw [e1] at hqb; omega)]; omega
    have e4 : rd_T27 (Q ++ [m]) (Q.length : Int) = m := rd_mid Q m [] rfl
    have k0 : (0 : Int) ≤ (Q.length : Int) := by omega
    have k1 : (Q.length : Int) < ((Q ++ [m]).length : Int) := by rw [e1]; omega
    have E4 := Aside0.mk e4
    have E1 := Aside0.mk e1
    clear e4 e1
    go_enter Try.func10, Try.ntmps10
    go_wp2_with (first | ((with_reducible refine gate_dst (N := 4) rfl ?_); refine ev_alloc rfl 27 rfl _ zero27 ?_; intro g w1 hge hg hb; have HP1 := Aside0.mk (HP.out.newB hb hg hge); clear HP; have HP := HP1; clear HP1; clear hge hg hb) | (go_at_call 13; refine (CKK.out _ (Kd.C_below HR.out HP.out.below)).mono ?_; rintro e w2 ⟨v, rfl, ho, hb⟩; obtain ⟨A6, c6, rfl, hlc6, hC6⟩ := Kd.R_reads ho; have HP2 := Aside0.mk (HP.out.call hb); clear HP; have HP := HP2; clear HP2; obtain ⟨ad, rfl, hx, hld⟩ := ld_at hC6 (Q.length : Int) k0 k1; rw [E4.out, Int.toNat_natCast] at hld; clear ho hb hlc6 hC6 hx) | ((with_reducible refine gate_store (t := 27) (p := 4) rfl ?_); refine ev_store rfl 27 (.tmp 4) (.tmp 19) rfl rfl _ rfl (cells := (c27 m).toArray) rfl (HP.out.blk 0 rfl) (hi27 _) rfl (one27 _) ?_; intro w3 hg hgr; have HP3 := Aside0.mk (HP.out.setB 0 rfl hgr hg); clear HP; have HP := HP3; clear HP3; clear hg hgr))
    exact bodyPost_ret (results_ct rfl _ _ _ 27 (c27 m).toArray (0, 0) _ rfl (HP.out.blk 0 rfl) Try.underlying27 rfl (hi27 _)) rfl ⟨rfl, HP.out.below⟩
end Go.Proofs.Ytgippbgcmmjnbaa.Ct
