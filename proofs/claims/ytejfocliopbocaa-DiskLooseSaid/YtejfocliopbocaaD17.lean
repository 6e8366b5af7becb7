import Derived.Test.YtejfocliopbocaaD16
import Derived.Deep.LoopGhost
namespace Go.Proofs.Ytejfocliopbocaa.D
open Go.RowKit Go.Proofs.Ytejfocliopbocaa.XD Go.Proofs.YtejfocliopbocaaW.PrintWords Go.Proofs.YtejfocliopbocaaW.PrintLast Go.Proofs.YtejfocliopbocaaW.PrintMore Go.Proofs.YtejfocliopbocaaXe Go.Proofs.YtejfocliopbocaaXs
set_option linter.unusedVariables false
set_option linter.unusedSimpArgs false
attribute [local go_sem ↓] Go.wp_at_zero Go.wp_at_succ
theorem crashG_far (keep : List Bool) (n : Int) : ∀ (l : List (Int × List Int)) (i : Nat) (t : Int) (f : Int → List Int), (∀ p ∈ l, p.1 ≠ n) → crashG keep l i t f n = f n
  | [], i, t, f, h => rfl
  | p :: l, i, t, f, h => by
    have h1 : p.1 ≠ n := h p List.mem_cons_self
    have h2 : ∀ q ∈ l, q.1 ≠ n := fun q hq => h q (List.mem_cons_of_mem _ hq)
    unfold crashG
    split
    · rw [crashG_far keep n l _ _ _ h2]; simp [put1, h1]
    · rw [crashG_far keep n l _ _ _ h2]; simp [put1, h1]
theorem writeS_many (S : DS) (n : Int) (b : List Int) : (writeS S n b).many = S.many := by unfold writeS; split; rfl; split; rfl; split <;> simp [DS.step]
theorem actS_many (S : DS) (x : S43) : (actS S x).many = S.many := by
  unfold actS
  split
  · exact writeS_many _ _ _
  · split
    · unfold flushS; split <;> simp [DS.step]
    · split
      · unfold fuseS; split <;> simp
      · split
        · unfold crashS; split <;> simp
        · rfl
theorem runS_many (S : DS) : ∀ (l : List S43), (runS S l).many = S.many := by
  intro l
  induction l using List.reverseRecOn' with
  | nil => simp [runS]
  | snoc l x ih => rw [runS_snoc, actS_many, ih]
def moreS (n : Int) (S : DS) (l : List S43) : DS := l.foldl (fun S x => if x.f1 ≠ n then writeS S x.f1 x.f2 else S) S
theorem moreS_snoc (n : Int) (S : DS) (l : List S43) (x : S43) : moreS n S (l ++ [x]) = if x.f1 ≠ n then writeS (moreS n S l) x.f1 x.f2 else moreS n S l := by unfold moreS; rw [List.foldl_append]; rfl
theorem writeS_at (S : DS) (n : Int) (b : List Int) : (writeS S n b).at' = S.at' ∧ ∀ p ∈ (writeS S n b).l, p ∈ S.l ∨ p.1 = n := by
  unfold writeS
  split
  · exact ⟨rfl, fun p hp => .inl hp⟩
  · split
    · exact ⟨rfl, fun p hp => .inl hp⟩
    · split
      · exact ⟨rfl, fun p hp => .inl hp⟩
      · refine ⟨rfl, fun p hp => ?_⟩
        rcases List.mem_append.1 hp with h | h
        · exact .inl h
        · exact .inr (by rw [List.mem_singleton.1 h])
theorem moreS_at (n : Int) (S : DS) : ∀ (l : List S43), (moreS n S l).at' = S.at' ∧ (∀ p ∈ (moreS n S l).l, p ∈ S.l ∨ p.1 ≠ n) ∧ (moreS n S l).many = S.many ∧ (moreS n S l).l.length ≤ S.l.length + l.length := by
  intro l
  induction l using List.reverseRecOn' with
  | nil => exact ⟨rfl, fun p hp => .inl hp, rfl, by simp [moreS]⟩
  | snoc l x ih =>
    rw [moreS_snoc]
    split
    · rename_i hx
      have h1 := writeS_at (moreS n S l) x.f1 x.f2
      refine ⟨h1.1.trans ih.1, fun p hp => ?_, (writeS_many _ _ _).trans ih.2.2.1, ?_⟩
      · rcases h1.2 p hp with h | h
        · exact ih.2.1 p h
        · exact .inr (by rw [h]; exact hx)
      · have h2 := writeS_len (moreS n S l) x.f1 x.f2
        have h3 := ih.2.2.2
        simp; omega
    · refine ⟨ih.1, ih.2.1, ih.2.2.1, ?_⟩
      have h3 := ih.2.2.2
      simp; omega
theorem pick_f (a n : Int) (hn : 1 ≤ n) (hn2 : n ≤ 1000000) : ∃ r, retconkit_Pick.f a n = some r ∧ 0 ≤ r ∧ r < n := by
  unfold retconkit_Pick.f
  rw [if_neg (by omega), if_neg (by omega)]
  have h1 : Int.tmod a n < n := Int.tmod_lt_of_pos a (by omega)
  have h2 : -n < Int.tmod a n := by
    have := Int.lt_tmod_of_pos a (show (0 : Int) < n by omega)
    omega
  split
  · refine ⟨_, rfl, ?_⟩
    have : wrap64 (Int.tmod a n + n) = Int.tmod a n + n := by unfold wrap64; omega
    rw [this]; omega
  · exact ⟨_, rfl, by omega, h1⟩
theorem C_blk64 {w : World} {g : Nat} {l : List Int} {t : TypeId} {fr : Nat × Nat} (hg : w.heap[g]? = some (.cells (u8c l).toArray t fr)) (hl : l.length = 64) : (Kd.int .u8).C w (some ⟨g, 0, none⟩) 64 l := by
  rw [← hl]
  exact C_ints (by rw [hl]; decide) (fun j x hj => by rw [add_at, Nat.zero_add, cell_of_row w g _ _ t fr hg]; simp [u8c, hj])
theorem same_f (l : List Int) : retconkit_SameBytes.f l l = some true := by simp [retconkit_SameBytes.f]
set_option maxHeartbeats 8000000 in
set_option maxRecDepth 100000 in
theorem diskFirm_law (A0 : Option Addr) (c0 : Nat) (l0 : List S43) (w : World) (hr0 : k43.C w A0 l0.length l0) (hc0 : l0.length ≤ c0) (hm0 : l0.length ≤ 9223372036854775807) (n : Int) (A2 : Option Addr) (c2 : Nat) (l2 : List S43) (hr2 : k43.C w A2 l2.length l2) (hc2 : l2.length ≤ c2) (hm2 : l2.length ≤ 9223372036854775807) (A3 : Option Addr) (c3 : Nat) (l3 : List Bool) (hr3 : Kd.bool.C w A3 l3.length l3) (hc3 : l3.length ≤ c3) (hm3 : l3.length ≤ 9223372036854775807) (torn : Int) :
    Calls Try.prog 4 #[.slice A0 l0.length c0, .int .i64 n, .slice A2 l2.length c2, .slice A3 l3.length c3, .int .i64 torn] w fun e w' => e = .returned (.bool true) ∧ Below w.heap.size w w' := by
  obtain ⟨k0, r0, hr, hr0ok⟩ := large_tells l0 hm0
  obtain ⟨k2, r2, hq, hr2ok⟩ := large_tells l2 hm2
  obtain ⟨n8, hn8, hn0, hn1⟩ := pick_f n 8 (by decide) (by decide)
  obtain ⟨t64, ht64, ht0, ht1⟩ := pick_f torn 64 (by decide) (by decide)
  have HC0 := Aside0.mk hr0
  have HC2 := Aside0.mk hr2
  have HC3 := Aside0.mk hr3
  have HL0 := Aside0.mk (fun w' (hb : Below w.heap.size w w') => retconlaw12_large.calls k0 A0 c0 l0 r0 w' (Kd.C_below hr0 hb) hc0 hr)
  have HL2 := Aside0.mk (fun w' (hb : Below w.heap.size w w') => retconlaw12_large.calls k2 A2 c2 l2 r2 w' (Kd.C_below hr2 hb) hc2 hq)
  have HR0 := Aside0.mk hr0ok
  have HR2 := Aside0.mk hr2ok
  have HM3 := Aside0.mk hm3
  have HN8 := Aside0.mk hn8
  have HN := Aside0.mk (And.intro hn0 hn1)
  have HT64 := Aside0.mk ht64
  have HT := Aside0.mk (And.intro ht0 ht1)
  obtain ⟨m3, hm⟩ : ∃ z, l3.length = z := ⟨_, rfl⟩
  rw [hm] at HC3 hm3
  rw [hm]
  have HM := Aside0.mk hm
  clear hr0 hr2 hr3 hc0 hc2 hc3 hm0 hm2 hm3 hr hq hr0ok hr2ok hn8 hn0 hn1 ht64 ht0 ht1 hm
  have HP := Aside0.mk (Hp.start w)
  cases r0 with
  | true =>
    go_enter Try.func4, Try.ntmps4
    go_wp2_with fail
    refine (diskKnown_c _).mono ?_; rintro e wl1 ⟨rfl, hb⟩
    have HPn := Aside0.mk (HP.out.call hb)
    clear HP hb
    have HP := HPn
    clear HPn
    go_wp2_with fail
    refine (c_newD HP.out 8 (by decide) (by decide)).mono ?_; rintro e wl2 ⟨g, rfl, hpn⟩
    clear HP
    have HP := Aside0.mk hpn
    clear hpn
    go_wp2_with fail
    refine (HL0.out _ HP.out.below).mono ?_; rintro e wl3 ⟨rfl, n_, rfl⟩
    have HPn := Aside0.mk (HP.out.drewN n_)
    clear HP
    have HP := HPn
    clear HPn
    obtain ⟨wq, hwq⟩ : ∃ z, wl2.drewN n_ = z := ⟨_, rfl⟩
    rw [hwq] at HP
    rw [hwq]
    clear hwq
    go_wp2_with fail
    go_ret
    exact ⟨rfl, HP.out.below⟩
  | false =>
    obtain ⟨hl0, ho0⟩ := HR0.out rfl
    have HL0' := Aside0.mk hl0
    have HO0 := Aside0.mk ho0
    clear hl0 ho0
    cases r2 with
    | true =>
      go_enter Try.func4, Try.ntmps4
      go_wp2_with fail
      refine (diskKnown_c _).mono ?_; rintro e wl1 ⟨rfl, hb⟩
      have HPn := Aside0.mk (HP.out.call hb)
      clear HP hb
      have HP := HPn
      clear HPn
      go_wp2_with fail
      refine (c_newD HP.out 8 (by decide) (by decide)).mono ?_; rintro e wl2 ⟨g, rfl, hpn⟩
      clear HP
      have HP := Aside0.mk hpn
      clear hpn
      go_wp2_with fail
      refine (HL0.out _ HP.out.below).mono ?_; rintro e wl3 ⟨rfl, n_, rfl⟩
      have HPn := Aside0.mk (HP.out.drewN n_)
      clear HP
      have HP := HPn
      clear HPn
      obtain ⟨wq, hwq⟩ : ∃ z, wl2.drewN n_ = z := ⟨_, rfl⟩
      rw [hwq] at HP
      rw [hwq]
      clear hwq
      go_wp2_with fail
      refine (HL2.out _ HP.out.below).mono ?_; rintro e wl4 ⟨rfl, m_, rfl⟩
      have HPn := Aside0.mk (HP.out.drewN m_)
      clear HP
      have HP := HPn
      clear HPn
      obtain ⟨wp, hwp⟩ : ∃ z, wq.drewN m_ = z := ⟨_, rfl⟩
      rw [hwp] at HP
      rw [hwp]
      clear hwp
      go_wp2_with fail
      go_ret
      exact ⟨rfl, HP.out.below⟩
    | false =>
      obtain ⟨hl2, ho2⟩ := HR2.out rfl
      have HL2' := Aside0.mk hl2
      have HO2 := Aside0.mk ho2
      clear hl2 ho2
      by_cases c3 : 100 < m3
      · have d3 : decide ((100 : Int) < (m3 : Int)) = true := decide_eq_true (by omega)
        clear c3
        go_enter Try.func4, Try.ntmps4
        go_wp2_with fail
        refine (diskKnown_c _).mono ?_; rintro e wl1 ⟨rfl, hb⟩
        have HPn := Aside0.mk (HP.out.call hb)
        clear HP hb
        have HP := HPn
        clear HPn
        go_wp2_with fail
        refine (c_newD HP.out 8 (by decide) (by decide)).mono ?_; rintro e wl2 ⟨g, rfl, hpn⟩
        clear HP
        have HP := Aside0.mk hpn
        clear hpn
        go_wp2_with fail
        refine (HL0.out _ HP.out.below).mono ?_; rintro e wl3 ⟨rfl, n_, rfl⟩
        have HPn := Aside0.mk (HP.out.drewN n_)
        clear HP
        have HP := HPn
        clear HPn
        obtain ⟨wq, hwq⟩ : ∃ z, wl2.drewN n_ = z := ⟨_, rfl⟩
        rw [hwq] at HP
        rw [hwq]
        clear hwq
        go_wp2_with fail
        refine (HL2.out _ HP.out.below).mono ?_; rintro e wl4 ⟨rfl, m_, rfl⟩
        have HPn := Aside0.mk (HP.out.drewN m_)
        clear HP
        have HP := HPn
        clear HPn
        obtain ⟨wp, hwp⟩ : ∃ z, wq.drewN m_ = z := ⟨_, rfl⟩
        rw [hwp] at HP
        rw [hwp]
        clear hwp
        go_wp2_with fail
        go_ret
        exact ⟨rfl, HP.out.below⟩
      · have d3 : decide ((100 : Int) < (m3 : Int)) = false := decide_eq_false (by omega)
        have HM100 := Aside0.mk (show m3 ≤ 100 by omega)
        clear c3
        go_enter Try.func4, Try.ntmps4
        go_wp2_with fail
        refine (diskKnown_c _).mono ?_; rintro e wl1 ⟨rfl, hb⟩
        have HPn := Aside0.mk (HP.out.call hb)
        clear HP hb
        have HP := HPn
        clear HPn
        go_wp2_with fail
        refine (c_newD HP.out 8 (by decide) (by decide)).mono ?_; rintro e wl2 ⟨g, rfl, hpn⟩
        clear HP
        have HP := Aside0.mk hpn
        clear hpn
        go_wp2_with fail
        refine (HL0.out _ HP.out.below).mono ?_; rintro e wl3 ⟨rfl, n_, rfl⟩
        have HPn := Aside0.mk (HP.out.drewN n_)
        clear HP
        have HP := HPn
        clear HPn
        obtain ⟨wq, hwq⟩ : ∃ z, wl2.drewN n_ = z := ⟨_, rfl⟩
        rw [hwq] at HP
        rw [hwq]
        clear hwq
        go_wp2_with fail
        refine (HL2.out _ HP.out.below).mono ?_; rintro e wl4 ⟨rfl, m_, rfl⟩
        have HPn := Aside0.mk (HP.out.drewN m_)
        clear HP
        have HP := HPn
        clear HPn
        obtain ⟨wp, hwp⟩ : ∃ z, wq.drewN m_ = z := ⟨_, rfl⟩
        rw [hwp] at HP
        rw [hwp]
        clear hwp
        go_wp2_with fail
        refine (retconkit_Pick.calls n 8 n8 _ HN8.out).mono ?_; rintro e w_ ⟨rfl, p_, rfl⟩
        have HPn := Aside0.mk (HP.out.drewN p_)
        clear HP
        have HP := HPn
        clear HPn
        obtain ⟨wpk, hwq⟩ : ∃ z, wp.drewN p_ = z := ⟨_, rfl⟩
        rw [hwq] at HP
        rw [hwq]
        clear hwq
        go_wp2_with fail
        refine (c_run HP.out 0 g (newS 8) rfl A0 c0 l0 HC0.out HO0.out HL0'.out (by decide)).mono ?_; rintro e wr1 ⟨rfl, hpn⟩
        clear HP
        have HP := Aside0.mk hpn
        clear hpn
        have HSM := Aside0.mk (show (runS (newS 8) l0).many = 8 from runS_many _ _)
        have HSL := Aside0.mk (show (runS (newS 8) l0).l.length ≤ 1000000 from by have h1 := runS_len (newS 8) l0; have h2 := HL0'.out; have h3 : (newS 8).l.length = 0 := rfl; omega)
        obtain ⟨S1, hS1⟩ : ∃ z, runS (newS 8) l0 = z := ⟨_, rfl⟩
        rw [hS1] at HP HSM HSL
        rw [hS1]
        clear hS1
        obtain ⟨o1, ho1⟩ : ∃ z, S1.out = z := ⟨_, rfl⟩
        rw [ho1]
        have HO1 := Aside0.mk ho1
        clear ho1
        cases o1 with
        | true =>
          go_wp2_with fail
          go_ret
          exact ⟨rfl, HP.out.below⟩
        | false =>
          by_cases hf : S1.fuse = 0
          · have HFE := Aside0.mk (show flushE S1 = 10 by unfold flushE; rw [if_pos (.inr hf)])
            clear hf
            go_wp2_with fail
            have CC := Aside0.mk (c_flush HP.out 0 g S1 rfl HSL.out)
            rw [HFE.out] at CC
            refine CC.out.mono ?_; rintro e wr2 ⟨rfl, hpn⟩
            clear CC HP
            have HP := Aside0.mk hpn
            clear hpn
            go_wp2_with fail
            go_ret
            exact ⟨rfl, HP.out.below⟩
          · have HFE := Aside0.mk (show flushE S1 = 0 by unfold flushE; rw [if_neg (by rw [HO1.out]; rintro (h | h); cases h; exact hf h)])
            have HFS := Aside0.mk (show flushS S1 = { S1.step with at' := putF S1.at' S1.l, l := [] } by unfold flushS; rw [if_neg (by rw [HO1.out]; rintro (h | h); cases h; exact hf h)])
            clear hf
            go_wp2_with fail
            have CC := Aside0.mk (c_flush HP.out 0 g S1 rfl HSL.out)
            rw [HFE.out, HFS.out] at CC
            refine CC.out.mono ?_; rintro e wr2 ⟨rfl, hpn⟩
            clear CC HP
            obtain ⟨S2, hS2⟩ : ∃ z, ({ S1.step with at' := putF S1.at' S1.l, l := [] } : DS) = z := ⟨_, rfl⟩
            rw [hS2] at hpn
            have HP := Aside0.mk hpn
            have HS2l := Aside0.mk (show S2.l = [] by rw [← hS2])
            have HS2m := Aside0.mk (show S2.many = 8 by rw [← hS2]; exact HSM.out)
            have HS2o := Aside0.mk (show S2.out = false by rw [← hS2]; exact HO1.out)
            have HRE := Aside0.mk (show S2.readyE n8 = 0 by unfold DS.readyE readyD; rw [HS2o.out, HS2m.out, if_neg (by decide), if_neg (by have := HN.out; omega)])
            clear hpn hS2
            go_wp2_with fail
            refine (c_read HP.out 0 g S2 rfl n8 (by rw [HS2l.out]; decide) HRE.out).mono ?_; rintro e wr3 ⟨gr, rfl, hlen, hpn⟩
            clear HP
            rw [HS2l.out] at hpn hlen
            rw [show putF S2.at' [] n8 = S2.at' n8 from rfl] at hpn hlen
            have HP := Aside0.mk hpn
            have HLEN := Aside0.mk hlen
            clear hpn hlen
            go_wp2_with fail
            have HSE := Aside0.mk (fun i => moreS_at n8 S2 (l2.take i))
            have hll : (l2.length : Int) ≤ 60 := by have := HL2'.out; omega
            go_loopg [16] l2.length (fun kq v16 w' => ∃ (j : Nat) (x : Int), v16 = .int .i64 x ∧ Aside0 (x = (j : Int)) ∧ Aside0 (kq + j = l2.length) ∧ Aside0 (Hp w w' [.blk gr (.cells (u8c (S2.at' n8)).toArray 68 (0, 0)), rDisk w.heap.size g (moreS n8 S2 (l2.take j))]))
            case atStart => exact ⟨0, 0, rfl, ⟨rfl⟩, ⟨rfl⟩, HP⟩
            clear HP
            obtain ⟨j, x, rfl, HX, HK, HP⟩ := hrel
            have hx := HX.out
            have HTL := Aside0.mk (show (moreS n8 S2 (l2.take j)).l.length ≤ 1000000 from by have h1 := (HSE.out j).2.2.2; rw [HS2l.out] at h1; have h2 := HL2'.out; rw [List.length_take] at h1; simp only [List.length_nil] at h1; omega)
            have HTA := Aside0.mk (show (moreS n8 S2 (l2.take j)).at' = S2.at' ∧ ∀ p ∈ (moreS n8 S2 (l2.take j)).l, p.1 ≠ n8 from ⟨(HSE.out j).1, fun p hp => by
              rcases (HSE.out j).2.1 p hp with h | h
              · rw [HS2l.out] at h; cases h
              · exact h⟩)
            have HTN := Aside0.mk (fun a (ha : l2[j]? = some a) => show moreS n8 S2 (l2.take (j + 1)) = if a.f1 ≠ n8 then writeS (moreS n8 S2 (l2.take j)) a.f1 a.f2 else moreS n8 S2 (l2.take j) by rw [take_snocD l2 j a ha, moreS_snoc])
            obtain ⟨T, hT⟩ : ∃ z, moreS n8 S2 (l2.take j) = z := ⟨_, rfl⟩
            rw [hT] at HP HTL HTA HTN
            by_cases c1 : j < l2.length
            · have d1 : decide (x < (l2.length : Int)) = true := decide_eq_true (by omega)
              have ex : IntKind.i64.wrap (x + 1) = x + 1 := IntWalk.i64_in _ (by omega)
              have p0 : 0 ≤ x := by omega
              have q0 : x < (l2.length : Int) := by omega
              obtain ⟨a, ha⟩ : ∃ p, l2[j]? = some p := ⟨_, List.getElem?_eq_getElem c1⟩
              obtain ⟨Ab, Ao, rfl⟩ := C_addrK (by decide) HC2.out (by omega)
              obtain ⟨A2, c2_, A3_, c3_, k0, k1, k2_, k3, k4, k5, k6, k7⟩ := act_cells HC2.out ha
              have hxt : x.toNat = j := by omega
              have hlt : Ab < w.heap.size := by
                rcases Nat.lt_or_ge Ab w.heap.size with h | h
                · exact h
                · rw [World.cell?, Array.getElem?_eq_none h] at k0; cases k0
              have HA1 := Aside0.mk (fun w' (hb : Below w.heap.size w w') => (show w'.cell? ⟨Ab, Ao + x.toNat * 4 + 1, none⟩ = some (.int .i64 a.f1) from (hb.cell (p := ⟨Ab, _, none⟩) (by exact hlt)).trans (by rw [hxt]; exact k1)))
              have HA2 := Aside0.mk (fun w' (hb : Below w.heap.size w w') => (show w'.cell? ⟨Ab, Ao + x.toNat * 4 + 2, none⟩ = some (.slice A2 a.f2.length c2_) from (hb.cell (p := ⟨Ab, _, none⟩) (by exact hlt)).trans (by rw [hxt]; exact k2_)))
              have HB := Aside0.mk k5
              have HAJ := Aside0.mk ha
              have HOA := Aside0.mk (HO2.out a (List.mem_of_getElem? ha))
              have hc1 := HA1.out _ HP.out.below
              obtain ⟨f1, hf1⟩ : ∃ z, a.f1 = z := ⟨_, rfl⟩
              rw [hf1] at hc1 HA1 
              have HF1 := Aside0.mk hf1
              have HTD := Aside0.mk hT
              clear hx c1 k0 k1 k2_ k3 k4 k5 k6 k7 hxt hlt ha hf1 hT
              by_cases cn : f1 = n8
              · have d2 : (f1 != n8) = false := by simpa using cn
                have HE := Aside0.mk (show moreS n8 S2 (l2.take (j + 1)) = T by rw [HTN.out a HAJ.out, HF1.out, if_neg (by simpa using cn)])
                clear cn
                go_wp2_with fail
                clear hc1
                go_roundg (gk - 1)
                case measure => have := HK.out; have := (List.getElem?_eq_some_iff.1 HAJ.out).1; omega
                case rel => exact ⟨j + 1, x + 1, rfl, ⟨by have := HX.out; omega⟩, ⟨by have := HK.out; have := (List.getElem?_eq_some_iff.1 HAJ.out).1; omega⟩, ⟨by rw [HE.out]; exact HP.out⟩⟩
              · have d2 : (f1 != n8) = true := by simpa using cn
                have HE := Aside0.mk (show moreS n8 S2 (l2.take (j + 1)) = writeS T f1 a.f2 by rw [HTN.out a HAJ.out, HF1.out, if_pos (by simpa using cn)])
                clear cn
                go_wp2_with fail
                clear hc1
                refine held_named (S := (fun w' => w'.cell? ⟨Ab, Ao + x.toNat * 4 + 1, none⟩ = some (.int .i64 f1) ∧ w'.cell? ⟨Ab, Ao + x.toNat * 4 + 2, none⟩ = some (.slice A2 a.f2.length c2_))) (by kernel_rfl) (fun wd13 hwd13 => ?_)
                have HPn := Aside0.mk (HP.out.drewN 1)
                rw [← World.drew_is_drewN, hwd13] at HPn
                clear HP hwd13
                have HP := HPn
                clear HPn
                refine ⟨by (try dsimp only); exact ⟨HA1.out _ HP.out.below, HA2.out _ HP.out.below⟩, fun hHeld => ?_⟩
                refine wpAnyH_take (i := 0) (oi := ({ dst := (some 81), op := (Op.move (Operand.tmp 12)), type := 22, pos := "outright.go:84", after := #[], guard := none } : Oper)) (v := ?_) rfl (by kernel_rfl) (by kernel_rfl) (by kernel_rfl) (fun _ _ _ h => h) (Or.inl ⟨by rfl, ?_⟩) hHeld ?_
                rotate_left
                · intro w_ hSw; (try dsimp only at hSw); go_simp; try (with_reducible rfl)
                try simp only [Act.put, List.setIfInBounds_toArray, List.set_cons_zero, List.set_cons_succ]
                refine wpAnyH_take (i := 1) (oi := ({ dst := (some 82), op := (Op.move (Operand.tmp 2)), type := 36, pos := "outright.go:84", after := #[], guard := none } : Oper)) (v := ?_) rfl (by kernel_rfl) (by kernel_rfl) (by kernel_rfl) (fun _ _ _ h => h) (Or.inl ⟨by rfl, ?_⟩) hHeld ?_
                rotate_left
                · intro w_ hSw; (try dsimp only at hSw); go_simp; try (with_reducible rfl)
                try simp only [Act.put, List.setIfInBounds_toArray, List.set_cons_zero, List.set_cons_succ]
                refine wpAnyH_take (i := 2) (oi := ({ dst := (some 83), op := (Op.move (Operand.tmp 16)), type := 3, pos := "outright.go:84", after := #[], guard := none } : Oper)) (v := ?_) rfl (by kernel_rfl) (by kernel_rfl) (by kernel_rfl) (fun _ _ _ h => h) (Or.inl ⟨by rfl, ?_⟩) hHeld ?_
                rotate_left
                · intro w_ hSw; (try dsimp only at hSw); go_simp; try (with_reducible rfl)
                try simp only [Act.put, List.setIfInBounds_toArray, List.set_cons_zero, List.set_cons_succ]
                refine wpAnyH_take (i := 3) (oi := ({ dst := (some 84), op := (Op.indexAddr 36 (Operand.tmp 82) (Operand.tmp 83)), type := 0, pos := "outright.go:84", after := #[{ on := 1, ground := Ground.data }, { on := 2, ground := Ground.data }], guard := none } : Oper)) (v := ?_) rfl (by kernel_rfl) (by kernel_rfl) (by kernel_rfl) (fun _ _ _ h => h) (Or.inl ⟨by rfl, ?_⟩) hHeld ?_
                rotate_left
                · intro w_ hSw; (try dsimp only at hSw); go_simp; try (with_reducible rfl)
                try simp only [Act.put, List.setIfInBounds_toArray, List.set_cons_zero, List.set_cons_succ]
                refine wpAnyH_take (i := 4) (oi := ({ dst := (some 85), op := (Op.fieldAddr 43 (Operand.tmp 84) 1), type := 0, pos := "outright.go:84", after := #[{ on := 3, ground := Ground.data }], guard := none } : Oper)) (v := ?_) rfl (by kernel_rfl) (by kernel_rfl) (by kernel_rfl) (fun _ _ _ h => h) (Or.inl ⟨by rfl, ?_⟩) hHeld ?_
                rotate_left
                · intro w_ hSw; (try dsimp only at hSw); go_simp; try (with_reducible rfl)
                try simp only [Act.put, List.setIfInBounds_toArray, List.set_cons_zero, List.set_cons_succ]
                refine wpAnyH_take (i := 5) (oi := ({ dst := (some 86), op := (Op.load 3 (Operand.tmp 85)), type := 3, pos := "outright.go:84", after := #[{ on := 4, ground := Ground.data }], guard := none } : Oper)) (v := ?_) rfl (by kernel_rfl) (by kernel_rfl) (by kernel_rfl) (fun _ _ _ h => h) (Or.inl ⟨by rfl, ?_⟩) hHeld ?_
                rotate_left
                · intro w_ hSw; (try dsimp only at hSw); go_simp; try (with_reducible rfl)
                try simp only [Act.put, List.setIfInBounds_toArray, List.set_cons_zero, List.set_cons_succ]
                refine wpAnyH_take (i := 6) (oi := ({ dst := (some 87), op := (Op.move (Operand.tmp 2)), type := 36, pos := "outright.go:84", after := #[], guard := none } : Oper)) (v := ?_) rfl (by kernel_rfl) (by kernel_rfl) (by kernel_rfl) (fun _ _ _ h => h) (Or.inl ⟨by rfl, ?_⟩) hHeld ?_
                rotate_left
                · intro w_ hSw; (try dsimp only at hSw); go_simp; try (with_reducible rfl)
                try simp only [Act.put, List.setIfInBounds_toArray, List.set_cons_zero, List.set_cons_succ]
                refine wpAnyH_take (i := 7) (oi := ({ dst := (some 88), op := (Op.move (Operand.tmp 16)), type := 3, pos := "outright.go:84", after := #[], guard := none } : Oper)) (v := ?_) rfl (by kernel_rfl) (by kernel_rfl) (by kernel_rfl) (fun _ _ _ h => h) (Or.inl ⟨by rfl, ?_⟩) hHeld ?_
                rotate_left
                · intro w_ hSw; (try dsimp only at hSw); go_simp; try (with_reducible rfl)
                try simp only [Act.put, List.setIfInBounds_toArray, List.set_cons_zero, List.set_cons_succ]
                refine wpAnyH_take (i := 8) (oi := ({ dst := (some 89), op := (Op.indexAddr 36 (Operand.tmp 87) (Operand.tmp 88)), type := 0, pos := "outright.go:84", after := #[{ on := 6, ground := Ground.data }, { on := 7, ground := Ground.data }], guard := none } : Oper)) (v := ?_) rfl (by kernel_rfl) (by kernel_rfl) (by kernel_rfl) (fun _ _ _ h => h) (Or.inl ⟨by rfl, ?_⟩) hHeld ?_
                rotate_left
                · intro w_ hSw; (try dsimp only at hSw); go_simp; try (with_reducible rfl)
                try simp only [Act.put, List.setIfInBounds_toArray, List.set_cons_zero, List.set_cons_succ]
                refine wpAnyH_take (i := 9) (oi := ({ dst := (some 90), op := (Op.fieldAddr 43 (Operand.tmp 89) 2), type := 0, pos := "outright.go:84", after := #[{ on := 8, ground := Ground.data }], guard := none } : Oper)) (v := ?_) rfl (by kernel_rfl) (by kernel_rfl) (by kernel_rfl) (fun _ _ _ h => h) (Or.inl ⟨by rfl, ?_⟩) hHeld ?_
                rotate_left
                · intro w_ hSw; (try dsimp only at hSw); go_simp; try (with_reducible rfl)
                try simp only [Act.put, List.setIfInBounds_toArray, List.set_cons_zero, List.set_cons_succ]
                refine wpAnyH_take (i := 10) (oi := ({ dst := (some 91), op := (Op.load 27 (Operand.tmp 90)), type := 27, pos := "outright.go:84", after := #[{ on := 9, ground := Ground.data }], guard := none } : Oper)) (v := ?_) rfl (by kernel_rfl) (by kernel_rfl) (by kernel_rfl) (fun _ _ _ h => h) (Or.inl ⟨by rfl, ?_⟩) hHeld ?_
                rotate_left
                · intro w_ hSw; (try dsimp only at hSw); go_simp; try (with_reducible rfl)
                try simp only [Act.put, List.setIfInBounds_toArray, List.set_cons_zero, List.set_cons_succ]
                refine wpAnyH_ready (rs := [11]) (by kernel_rfl) (by simp) ?_
                refine AllReadyH.cons (o := ({ dst := (some 92), op := (Op.call { callee := (Callee.value (Operand.func 11)), args := #[(Operand.tmp 81), (Operand.tmp 86), (Operand.tmp 91)], argTypes := #[22, 3, 27] }), type := 24, pos := "outright.go:84", after := #[{ on := 0, ground := Ground.data }, { on := 5, ground := Ground.data }, { on := 10, ground := Ground.data }], guard := none } : Oper)) rfl (fun K hK => ?_) AllReadyH.nil
                go_simp
                refine (c_write HP.out 1 g T rfl f1 A2 c2_ a.f2 (by have := HOA.out.1; omega) (Rd.below HB.out) HTL.out).mono ?_; rintro e w2 ⟨rfl, hpn⟩; clear HP; have HP := Aside0.mk hpn; clear hpn
                go_wp2_with fail
                clear hHeld
                refine hK.out _ _ ?_ (fun hHeld => ?_)
                · (try dsimp only); exact ⟨HA1.out _ HP.out.below, HA2.out _ HP.out.below⟩
                clear hK K
                try simp only [Act.put, List.setIfInBounds_toArray, List.set_cons_zero, List.set_cons_succ]
                refine wpAnyH_done (by kernel_rfl) ?_ _
                go_wp2_with fail
                go_roundg (gk - 1)
                case measure => have := HK.out; have := (List.getElem?_eq_some_iff.1 HAJ.out).1; omega
                case rel => exact ⟨j + 1, x + 1, rfl, ⟨by have := HX.out; omega⟩, ⟨by have := HK.out; have := (List.getElem?_eq_some_iff.1 HAJ.out).1; omega⟩, ⟨by rw [HE.out]; exact HP.out⟩⟩
            · have d1 : decide (x < (l2.length : Int)) = false := decide_eq_false (by omega)
              have HTM := Aside0.mk (show T.many = 8 by rw [← hT]; exact (HSE.out j).2.2.1.trans HS2m.out)
              clear hx c1 hT
              go_wp2_with fail
              refine (retconkit_Pick.calls torn 64 t64 _ HT64.out).mono ?_; rintro e w_ ⟨rfl, p_, rfl⟩
              have HPn := Aside0.mk (HP.out.drewN p_)
              clear HP
              have HP := HPn
              clear HPn
              obtain ⟨wpt, hwq⟩ : ∃ z, wr.drewN p_ = z := ⟨_, rfl⟩
              rw [hwq] at HP
              rw [hwq]
              clear hwq
              go_wp2_with fail
              have CC := Aside0.mk (c_crash HP.out 1 g T rfl A3 c3 l3 (by have := HM.out; have := HM100.out; omega) (Rd.below (by rw [HM.out]; exact HC3.out)) t64 HT.out HTL.out)
              rw [HM.out] at CC
              refine CC.out.mono ?_; rintro e wr4 ⟨rfl, hpn⟩
              clear CC HP
              obtain ⟨S3, hS3⟩ : ∃ z, ({ T with fuse := -1, out := false, at' := crashG l3 T.l 0 t64 T.at', l := [] } : DS) = z := ⟨_, rfl⟩
              rw [hS3] at hpn
              have HP := Aside0.mk hpn
              have H3l := Aside0.mk (show S3.l = [] by rw [← hS3])
              have H3o := Aside0.mk (show S3.out = false by rw [← hS3])
              have H3r := Aside0.mk (show S3.readyE n8 = 0 by unfold DS.readyE readyD; rw [H3o.out, show S3.many = 8 from by rw [← hS3]; exact HTM.out, if_neg (by decide), if_neg (by have := HN.out; omega)])
              have H3a := Aside0.mk (show putF S3.at' S3.l n8 = S2.at' n8 by rw [H3l.out]; show S3.at' n8 = _; rw [← hS3]; show crashG l3 T.l 0 t64 T.at' n8 = _; rw [crashG_far l3 n8 T.l 0 t64 T.at' HTA.out.2, HTA.out.1])
              clear hpn hS3
              go_wp2_with fail
              refine (c_reads HP.out 1 g S3 rfl n8 (by rw [H3l.out]; decide) H3r.out (some ⟨gr, 0, none⟩) 64 64 (S2.at' n8) HLEN.out (by decide) (fun w' h => C_blk64 (h.blk 0 rfl) HLEN.out) true (by rw [H3a.out]; exact same_f _)).mono ?_; rintro e wr5 ⟨rfl, hpn⟩
              clear HP
              have HP := Aside0.mk hpn
              clear hpn
              go_wp2_with fail
              have CC := Aside0.mk (c_upD HP.out 1 g S3 rfl)
              rw [H3o.out] at CC
              refine CC.out.mono ?_; rintro e w_ ⟨rfl, rfl⟩
              clear CC
              go_wp2_with fail
              have CC := Aside0.mk (c_looseD HP.out 1 g S3 rfl)
              rw [H3l.out] at CC
              refine CC.out.mono ?_; rintro e w_ ⟨rfl, rfl⟩
              clear CC
              go_wp2_with fail
              go_ret
              exact ⟨rfl, HP.out.below⟩
end Go.Proofs.Ytejfocliopbocaa.D
