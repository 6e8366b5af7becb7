import Derived.Test.YtgflghnbpbiakaaV07
namespace Go.Proofs.Ytgflghnbpbiakaa.Su
open Go.Proofs.Ytgflghnbpbiakaa.H hiding C_ints cellL cellN ev_copy ev_store_mid frozC i64k run_cut_all run_cut_arr run_cut_to setL set_self
open Go.RowKit Go.Proofs.Ytgflghnbpbiakaa.XH Go.Proofs.YtgflghnbpbiakaaW.PrintWords Go.Proofs.YtgflghnbpbiakaaW.PrintLast Go.Proofs.YtgflghnbpbiakaaW.PrintMore Go.Proofs.YtgflghnbpbiakaaXe Go.Proofs.YtgflghnbpbiakaaXs
set_option linter.unusedVariables false
set_option linter.unusedSimpArgs false
attribute [local go_sem ↓] Go.wp_at_zero Go.wp_at_succ
attribute [local go_sem] valUpon
open Go.Proofs.Ytgflghnbpbiakaa.D hiding c_len c_new c_write
attribute [local go_sem ↓ high] bn23 bn25
attribute [local go_sem high] BN25.z
theorem results_three {P : Program} {fn : Func} {p p2 p3 : Tmp} (h : fn.results = #[.tmp p, .tmp p2, .tmp p3]) (tmps : Array Value) (w : World) {v v2 v3 : Value} (hp : tmps.getD p undef = v) (hp2 : tmps.getD p2 undef = v2) (hp3 : tmps.getD p3 undef = v3) : (results fn tmps).run P w = .ok (.tuple #[v, v2, v3]) w := by
  have hp' : tmps[p]?.getD undef = v := by simpa using hp
  have hp2' : tmps[p2]?.getD undef = v2 := by simpa using hp2
  have hp3' : tmps[p3]?.getD undef = v3 := by simpa using hp3
  simp [results, h, hp', hp2', hp3']
/-- how a sector reads -/
def sec (S : DS) (k : Int) : List Int := putF S.at' S.l k
def okD (S : DS) : Prop := (∀ k, (S.at' k).length = 64 ∧ Bytes (S.at' k)) ∧ (∀ p ∈ S.l, p.2.length = 64 ∧ Bytes p.2) ∧ S.l.length ≤ 1000
theorem putF_ok : ∀ (l : List (Int × List Int)) (f : Int → List Int), (∀ k, (f k).length = 64 ∧ Bytes (f k)) → (∀ p ∈ l, p.2.length = 64 ∧ Bytes p.2) → ∀ k, (putF f l k).length = 64 ∧ Bytes (putF f l k)
  | [], f, h, _, k => h k
  | p :: l, f, h, hl, k => by
    unfold putF
    rw [List.foldl_cons]
    refine putF_ok l _ (fun j => ?_) (fun q hq => hl q (List.mem_cons_of_mem _ hq)) k
    split
    · exact hl p List.mem_cons_self
    · exact h j
theorem sec_ok {S : DS} (h : okD S) (k : Int) : (sec S k).length = 64 ∧ Bytes (sec S k) := putF_ok S.l S.at' h.1 h.2.1 k
/-- pointers -/
def KP : Kd (Option Addr) where
  sz := 1
  E := []
  K := fun _ x cs => cs = [.pointer x]
  M := fun _ _ _ x cs => cs = [.pointer x]
  K_len := fun h => by rw [h]; rfl
  K_one := fun h u hu => by rw [h] at hu; rw [List.mem_singleton.1 hu]; rfl
  K_below := fun _ h => h
  K_of_M := fun h => h
  M_mono := fun _ h => h
  M_bound := fun h => h
  M_move := fun _ h => h
  M_lower := fun _ h => h
theorem plain_KP : Plain KP := fun _ _ _ _ h => h
theorem infoKP : (Try.prog.info? 88).map (fun i => (i.zero, i.size, i.bytes)) = some (some (.pointer none), 1, 8) := by kernel_rfl
theorem ev_make {P : Program} {ops : Array Oper} {rest : List Oper} {o : Oper} {a : Act} {Q : Exit → Act → World → Prop} {W : World} (hw : Region.wanted o (yielded ops a.tmps) = true) (t : TypeId) (x y : Operand) (ho : o.op = .makeSlice t x y)
    {vx vy v : Value} {w1 : World} (hx : a.eval x = vx) (hy : a.eval y = vy) (hr : (Instr.makeSlice t vx vy).run P W = .ok v w1) (h : wpList P ops Q rest (a.put o.dst v) w1) : wpList P ops Q (o :: rest) a W :=
  ev_run hw (by simp [execOp, ho, hx, hy, hr]) h
def s64' : List Int := List.replicate 64 0
theorem s64'_b : Bytes s64' := fun x hx => by rw [(List.mem_replicate.1 hx).2]; decide
noncomputable def ptrO (g : Nat) (b : List Int) : Option Addr := if isS b then some ⟨g, 0, none⟩ else none
theorem ptrO_t {g : Nat} {b : List Int} (h : isS b = true) : ptrO g b = some ⟨g, 0, none⟩ := by unfold ptrO; rw [if_pos h]
theorem ptrO_f {g : Nat} {b : List Int} (h : isS b = false) : ptrO g b = none := by unfold ptrO; rw [if_neg (by rw [h]; decide)]
noncomputable def supR (g : Nat) (b : List Int) : Res := .blk g (.cells (c25 (unpS b)).toArray 25 (0, 0))
def slotsE (S : DS) : Int := if S.many < 2 then 8 else if S.out then 10 else 0
def blankS (S : DS) : Bool := decide (sec S 0 = s64') || decide (sec S 1 = s64')
noncomputable def slR (base : Nat) (v : Value) (S : DS) (g0 g1 : Nat) (Rs : List Res) : Nat → List Res
  | 0 => .row KP 88 base v [] :: Rs
  | 1 => .row KP 88 base v [ptrO g0 (sec S 0)] :: supR g0 (sec S 0) :: Rs
  | _ => .row KP 88 base v [ptrO g0 (sec S 0), ptrO g1 (sec S 1)] :: supR g1 (sec S 1) :: supR g0 (sec S 0) :: Rs
def blkJ (S : DS) : Nat → Bool
  | 0 => false
  | 1 => decide (sec S 0 = s64')
  | _ => blankS S
def slotsPost (w0 : World) (Rs : List Res) (S : DS) (e : Ending) (w' : World) : Prop :=
  (slotsE S ≠ 0 ∧ e = .returned (.tuple #[.slice none 0 0, .bool false, .int .i64 (slotsE S)]) ∧ Hp w0 w' Rs) ∨
  (slotsE S = 0 ∧ ∃ A c g0 g1, e = .returned (.tuple #[.slice A 2 c, .bool (blankS S), .int .i64 0]) ∧ Hp w0 w' (slR w0.heap.size (.slice A 2 c) S g0 g1 Rs 2))
theorem ready_cases (S : DS) : (S.readyE 0 = 0 → S.out = false ∧ 1 ≤ S.many) ∧ (S.readyE 0 ≠ 0 → ¬ S.many < 2 → S.readyE 0 = 10 ∧ S.out = true) ∧ (S.readyE 0 = 0 ∨ S.readyE 0 = 5 ∨ S.readyE 0 = 10) := by
  unfold DS.readyE readyD
  cases S.out with
  | true => simp
  | false =>
    simp
    by_cases h : S.many ≤ 0
    · simp [h]; omega
    · simp [h]; omega
theorem ready1 (S : DS) (h : S.out = false) (hm : ¬ S.many < 2) : S.readyE 1 = 0 := by
  unfold DS.readyE readyD
  rw [h]
  simp
  omega
set_option maxHeartbeats 8000000 in
set_option maxRecDepth 100000 in
theorem c_slots {w0 w : World} {Rs : List Res} (HP0 : Hp w0 w Rs) (i g : Nat) (S : DS) (hi : Rs[i]? = some (rDisk w0.heap.size g S)) (hok : okD S) :
    Calls Try.prog 46 #[.pointer (some ⟨g, 0, none⟩)] w (slotsPost w0 Rs S) := by
  have HP := Aside0.mk HP0
  have HI := Aside0.mk hi
  have HOK := Aside0.mk hok
  have HRC := Aside0.mk (ready_cases S)
  have HLN := Aside0.mk (show S.l.length ≤ 1000000 by have := hok.2.2; omega)
  clear HP0 hi hok
  obtain ⟨r, hr⟩ : ∃ z, S.readyE 0 = z := ⟨_, rfl⟩
  have HR := Aside0.mk hr
  rw [hr] at HRC
  clear hr
  by_cases h0 : r = 0
  rotate_left
  · have d0 : (r == 1) = false := beq_eq_false_iff_ne.2 (by rcases HRC.out.2.2 with h | h | h <;> omega)
    have d0' : (r != 0) = true := bne_iff_ne.2 h0
    have CR := Aside0.mk (fun w (HP : Hp w0 w Rs) => c_readE HP i g S HI.out 0 (by rw [HR.out]; exact h0))
    rw [HR.out] at CR
    have H0 := Aside0.mk h0
    clear h0
    go_enter Try.func46, Try.ntmps46
    go_wp2_with fail
    refine (CR.out _ HP.out).mono ?_; rintro e w_ ⟨rfl, rfl⟩
    go_wp2_with fail
    refine (c_lenD HP.out i g S HI.out).mono ?_; rintro e w_ ⟨rfl, rfl⟩
    by_cases h2 : S.many < 2
    · have d2 : decide (S.many < 2) = true := decide_eq_true h2
      have HE := Aside0.mk (show slotsE S = 8 from by unfold slotsE; rw [if_pos h2])
      clear h2
      go_wp2_with fail
      refine bodyPost_ret (results_three rfl _ _ rfl rfl rfl) rfl ?_
      exact Or.inl ⟨by rw [HE.out]; decide, by rw [HE.out]; rfl, HP.out⟩
    have d2 : decide (S.many < 2) = false := decide_eq_false h2
    have HE := Aside0.mk (show slotsE S = r ∧ r = 10 from by
      obtain ⟨h3, h4⟩ := HRC.out.2.1 H0.out (by omega)
      unfold slotsE
      rw [if_neg (by omega), h4, h3]
      exact ⟨rfl, rfl⟩)
    clear h2
    go_wp2_with fail
    go_loopg [25] 1 (fun kq v25 w' => v25 = .int .i64 0 ∧ Aside0 (Hp w0 w' Rs))
    case atStart => exact ⟨rfl, HP⟩
    clear HP
    obtain ⟨rfl, HP⟩ := hrel
    go_wp2_with fail
    refine (CR.out _ HP.out).mono ?_; rintro e w_ ⟨rfl, rfl⟩
    go_wp2_with fail
    refine bodyPost_ret (results_three rfl _ _ rfl rfl rfl) rfl ?_
    exact Or.inl ⟨by rw [HE.out.1]; exact H0.out, by rw [HE.out.1]; rfl, HP.out⟩
  subst h0
  have HOUT := Aside0.mk (HRC.out.1 rfl)
  have CR := Aside0.mk (fun w (HP : Hp w0 w Rs) => c_read HP i g S HI.out 0 HLN.out HR.out)
  go_enter Try.func46, Try.ntmps46
  go_wp2_with fail
  refine (CR.out _ HP.out).mono ?_; rintro e w1 ⟨gr, rfl, -, hpn⟩
  clear HP
  have HP := Aside0.mk hpn.drop1
  clear hpn
  go_wp2_with fail
  refine (c_lenD HP.out i g S HI.out).mono ?_; rintro e w_ ⟨rfl, rfl⟩
  by_cases h2 : S.many < 2
  · have d2 : decide (S.many < 2) = true := decide_eq_true h2
    have HE := Aside0.mk (show slotsE S = 8 from by unfold slotsE; rw [if_pos h2])
    clear h2
    go_wp2_with fail
    refine bodyPost_ret (results_three rfl _ _ rfl rfl rfl) rfl ?_
    exact Or.inl ⟨by rw [HE.out]; decide, by rw [HE.out]; rfl, HP.out⟩
  have d2 : decide (S.many < 2) = false := decide_eq_false h2
  have HE := Aside0.mk (show slotsE S = 0 from by unfold slotsE; rw [if_neg h2, HOUT.out.1]; rfl)
  have HR1 := Aside0.mk (ready1 S HOUT.out.1 h2)
  clear h2
  go_wp2_with fail
  have HP1 := Aside0.mk (show Hp w0 _ (slR w0.heap.size (.slice none 0 0) S 0 0 Rs 0) from HP.out.nilrow KP 88 (.slice none 0 0) (fun ok => Kd.R_nil _ _ _ _ ok))
  clear HP
  go_loopg [7, 8, 9, 10, 11, 12, 13, 25] 2 (fun kq v7 v8 v9 v10 v11 v12 v13 v25 w' => ∃ (j : Nat) (A : Option Addr) (c g0 g1 : Nat), j ≤ 2 ∧ kq + j = 2 ∧ v7 = .bool (blkJ S j) ∧ v8 = .slice A j c ∧ v25 = .int .i64 (j : Int) ∧ Aside0 (Hp w0 w' (slR w0.heap.size (.slice A j c) S g0 g1 Rs j)))
  case atStart => exact ⟨0, none, 0, 0, 0, by decide, rfl, rfl, rfl, rfl, HP1⟩
  clear HP1
  obtain ⟨j, A, c, g0, g1, hj, hk, rfl, rfl, rfl, HP⟩ := hrel
  have hmk : ∀ w : World, (Instr.makeSlice 26 (.int .i64 64) (.int .i64 64)).run Try.prog w = .ok (.slice (some ⟨w.heap.size, 0, none⟩) 64 64) (w.alloc (.cells (u8s s64').toArray 5)) := fun w => run_make8 64 (by decide) w
  match j, hj, hk with
  | 0, _, hk =>
    have HK := Aside0.mk hk
    clear hk
    have HPn := Aside0.mk (show Hp w0 wr (.row KP 88 w0.heap.size (.slice A 0 c) [] :: Rs) from HP.out)
    clear HP
    have HP := HPn
    clear HPn
    have HB := Aside0.mk (show blkJ S 0 = false from rfl)
    rw [HB.out]
    have CR := Aside0.mk (c_read HP.out (i + 1) g S HI.out 0 HLN.out HR.out)
    go_wp2_with fail
    refine CR.out.mono ?_; rintro e w2 ⟨gb, rfl, hl64, hpn⟩
    clear HP CR
    have HSB := Aside0.mk (sec_ok HOK.out 0)
    obtain ⟨b, hb⟩ : ∃ z, sec S 0 = z := ⟨_, rfl⟩
    rw [show putF S.at' S.l 0 = b from hb] at hpn hl64
    have HBB := Aside0.mk hb
    rw [hb] at HSB
    have HP := Aside0.mk (show Hp w0 w2 (.blk gb (.cells (u8s b).toArray 93 (0, 0)) :: .row KP 88 w0.heap.size (.slice A 0 c) [] :: Rs) from hpn)
    clear hpn hl64 hb
    obtain ⟨t2, ht2⟩ : ∃ z, decide (b = s64') = z := ⟨_, rfl⟩
    have CE := Aside0.mk (fun (w : World) A0 c0 A1 c1 h1 k1 h2 k2 => bytes_Equal.calls A0 c0 b A1 c1 s64' t2 w h1 k1 h2 k2 (by rw [← ht2]; exact eq_fB b s64' HSB.out.2 s64'_b))
    rw [HSB.out.1, show s64'.length = 64 from rfl] at CE
    have HT2 := Aside0.mk ht2
    clear ht2
    go_wp2_with (first | ((with_reducible refine gate_dst (N := 40) rfl ?_); refine ev_make rfl 26 _ _ rfl rfl rfl (hmk w2) ?_))
    have HPn := Aside0.mk (HP.out.alloc (.cells (u8s s64').toArray 5 (0, 0)))
    clear HP
    have HP := HPn
    clear HPn
    refine (CE.out _ (some ⟨gb, 0, none⟩) 64 _ 64 (C_tk (C_blkW (k := .u8) (HP.out.blk 1 rfl) (by rw [HSB.out.1]; decide)) 64 (by rw [HSB.out.1]; decide) (List.take_of_length_le (by rw [HSB.out.1]; decide))) (by decide) (C_tk (C_blkW (k := .u8) (l := s64') (HP.out.blk 0 rfl) (by decide)) 64 (by decide) rfl) (by decide)).mono ?_; rintro e w_ ⟨rfl, n_, rfl⟩
    have HPn := Aside0.mk ((HP.out.drewN n_).drop1)
    clear HP CE
    have HP := HPn
    clear HPn
    obtain ⟨w3, hw3⟩ : ∃ z, (w2.alloc (.cells (u8s s64').toArray 5)).drewN n_ = z := ⟨_, rfl⟩
    rw [hw3] at HP ⊢
    clear hw3
    go_wp2_with fail
    have CU := Aside0.mk (c_sunpack (some ⟨gb, 0, none⟩) 64 b _ (C_blkW (k := .u8) (HP.out.blk 0 rfl) (by rw [HSB.out.1]; decide)) (by rw [HSB.out.1]; decide) (by rw [HSB.out.1]; decide) HSB.out.2)
    rw [HSB.out.1] at CU
    refine CU.out.mono ?_; rintro e w4 ⟨rfl, hbl⟩
    have HPn := Aside0.mk ((HP.out.call hbl).drop1)
    clear HP CU hbl
    have HP := HPn
    clear HPn
    have HUL := Aside0.mk (c25_len (unpS b) (unpS_root b))
    have HU1 := Aside0.mk (c25_one (unpS b))
    have HSUP := Aside0.mk (show ∀ g, supR g b = .blk g (.cells (c25 (unpS b)).toArray 25 (0, 0)) from fun g => rfl)
    obtain ⟨cu, hcu⟩ : ∃ z, c25 (unpS b) = z := ⟨_, rfl⟩
    rw [hcu] at HUL HU1 HSUP ⊢
    clear hcu
    obtain ⟨t3, ht3⟩ : ∃ z, isS b = z := ⟨_, rfl⟩
    have HT3 := Aside0.mk ht3
    rw [ht3]
    clear ht3
    cases t3
    · go_wp2_with (first | ((with_reducible refine gate_dst (N := 12) rfl ?_); refine ev_alloc rfl 25 rfl (.agg (c25 s0).toArray) (by kernel_rfl) ?_; intro g_u w5 hge hg hb; have HPn := Aside0.mk (HP.out.newB hb hg hge); clear HP; have HP := HPn; clear HPn; clear hge hg hb) | ((with_reducible refine gate_store (t := 25) (p := 12) rfl ?_); refine ev_store rfl 25 (.tmp 12) (.tmp 46) rfl rfl _ rfl (cells := cu.toArray) rfl (HP.out.blk 0 rfl) (by rw [List.size_toArray, HUL.out]; kernel_rfl) (show (c25 s0).toArray.size = cu.toArray.size from by rw [List.size_toArray, List.size_toArray, HUL.out, c25_len s0 rfl]) HU1.out ?_; intro w6 hg hgr; have HPn := Aside0.mk (HP.out.setB 0 rfl hgr hg); clear HP; have HP := HPn; clear HPn; clear hg hgr) | ((with_reducible refine gate_dst (N := 53) rfl ?_); refine ev_run rfl (v := .slice (some ⟨w6.heap.size, 0, none⟩) 1 1) (w1 := w6.alloc (.cells #[.pointer none] 88)) (by go_simp) ?_; have HPl := Aside0.mk (HP.out.alloc (.cells #[.pointer none] 88 (0, 0)))) | ((with_reducible refine gate_builtin (b := .append) (xs := #[.tmp 52, .tmp 53]) rfl ?_); (try at_builtin); refine ev_append plain_KP HPl.out 2 rfl (.tmp 52) (.tmp 53) 84 88 _ 8 rfl Try.underlying84 infoKP rfl (by decide) (by decide) (.slice A 0 c) [] [none] (some ⟨w6.heap.size, 0, none⟩) 1 1 rfl rfl rfl (C_blk1 KP (HPl.out.blk 0 rfl) rfl) (by first | decide | simp) ?_; intro v_n wn hpn; clear HP HPl; have HP := Aside0.mk hpn.drop1; clear hpn))
      obtain ⟨An, cn, rfl⟩ := Kd.R_slice (HP.out.row 1 rfl)
      have HPn := Aside0.mk (show Hp w0 _ (slR w0.heap.size (.slice An 1 cn) S g_u 0 Rs 1) from by
        have h := Hp.rot1 HP.out
        unfold slR
        rw [HBB.out, HSUP.out, ptrO_f HT3.out]
        exact h)
      go_roundg (gk - 1)
      case measure => have := HK.out; omega
      case rel => exact ⟨1, An, cn, g_u, 0, by decide, by have := HK.out; omega, by unfold blkJ; rw [HBB.out, HT2.out]; (try rfl), rfl, rfl, HPn⟩
    · go_wp2_with (first | ((with_reducible refine gate_dst (N := 12) rfl ?_); refine ev_alloc rfl 25 rfl (.agg (c25 s0).toArray) (by kernel_rfl) ?_; intro g_u w5 hge hg hb; have HPn := Aside0.mk (HP.out.newB hb hg hge); clear HP; have HP := HPn; clear HPn; clear hge hg hb) | ((with_reducible refine gate_store (t := 25) (p := 12) rfl ?_); refine ev_store rfl 25 (.tmp 12) (.tmp 46) rfl rfl _ rfl (cells := cu.toArray) rfl (HP.out.blk 0 rfl) (by rw [List.size_toArray, HUL.out]; kernel_rfl) (show (c25 s0).toArray.size = cu.toArray.size from by rw [List.size_toArray, List.size_toArray, HUL.out, c25_len s0 rfl]) HU1.out ?_; intro w6 hg hgr; have HPn := Aside0.mk (HP.out.setB 0 rfl hgr hg); clear HP; have HP := HPn; clear HPn; clear hg hgr) | ((with_reducible refine gate_dst (N := 50) rfl ?_); refine ev_run rfl (v := .slice (some ⟨w6.heap.size, 0, none⟩) 1 1) (w1 := w6.alloc (.cells #[.pointer (some ⟨g_u, 0, none⟩)] 88)) (by go_simp) ?_; have HPl := Aside0.mk (HP.out.alloc (.cells #[.pointer (some ⟨g_u, 0, none⟩)] 88 (0, 0)))) | ((with_reducible refine gate_builtin (b := .append) (xs := #[.tmp 49, .tmp 50]) rfl ?_); (try at_builtin); refine ev_append plain_KP HPl.out 2 rfl (.tmp 49) (.tmp 50) 84 88 _ 8 rfl Try.underlying84 infoKP rfl (by decide) (by decide) (.slice A 0 c) [] [some ⟨g_u, 0, none⟩] (some ⟨w6.heap.size, 0, none⟩) 1 1 rfl rfl rfl (C_blk1 KP (HPl.out.blk 0 rfl) rfl) (by first | decide | simp) ?_; intro v_n wn hpn; clear HP HPl; have HP := Aside0.mk hpn.drop1; clear hpn))
      obtain ⟨An, cn, rfl⟩ := Kd.R_slice (HP.out.row 1 rfl)
      have HPn := Aside0.mk (show Hp w0 _ (slR w0.heap.size (.slice An 1 cn) S g_u 0 Rs 1) from by
        have h := Hp.rot1 HP.out
        unfold slR
        rw [HBB.out, HSUP.out, ptrO_t HT3.out]
        exact h)
      go_roundg (gk - 1)
      case measure => have := HK.out; omega
      case rel => exact ⟨1, An, cn, g_u, 0, by decide, by have := HK.out; omega, by unfold blkJ; rw [HBB.out, HT2.out]; (try rfl), rfl, rfl, HPn⟩
  | 1, _, hk =>
    have HK := Aside0.mk hk
    clear hk
    have HPn := Aside0.mk (show Hp w0 wr (.row KP 88 w0.heap.size (.slice A 1 c) [ptrO g0 (sec S 0)] :: supR g0 (sec S 0) :: Rs) from HP.out)
    clear HP
    have HP := HPn
    clear HPn
    have CR := Aside0.mk (c_read HP.out (i + 2) g S HI.out 1 HLN.out HR1.out)
    have HB := Aside0.mk (show blkJ S 1 = decide (sec S 0 = s64') from rfl)
    obtain ⟨t1, ht1⟩ : ∃ z, blkJ S 1 = z := ⟨_, rfl⟩
    rw [ht1] at HB ⊢
    clear ht1
    cases t1
    · go_wp2_with fail
      refine CR.out.mono ?_; rintro e w2 ⟨gb, rfl, hl64, hpn⟩
      clear HP CR
      have HSB := Aside0.mk (sec_ok HOK.out 1)
      obtain ⟨b, hb⟩ : ∃ z, sec S 1 = z := ⟨_, rfl⟩
      rw [show putF S.at' S.l 1 = b from hb] at hpn hl64
      have HBB := Aside0.mk hb
      rw [hb] at HSB
      have HP := Aside0.mk (show Hp w0 w2 (.blk gb (.cells (u8s b).toArray 93 (0, 0)) :: .row KP 88 w0.heap.size (.slice A 1 c) [ptrO g0 (sec S 0)] :: supR g0 (sec S 0) :: Rs) from hpn)
      clear hpn hl64 hb
      obtain ⟨t2, ht2⟩ : ∃ z, decide (b = s64') = z := ⟨_, rfl⟩
      have CE := Aside0.mk (fun (w : World) A0 c0 A1 c1 h1 k1 h2 k2 => bytes_Equal.calls A0 c0 b A1 c1 s64' t2 w h1 k1 h2 k2 (by rw [← ht2]; exact eq_fB b s64' HSB.out.2 s64'_b))
      rw [HSB.out.1, show s64'.length = 64 from rfl] at CE
      have HT2 := Aside0.mk ht2
      clear ht2
      go_wp2_with (first | ((with_reducible refine gate_dst (N := 40) rfl ?_); refine ev_make rfl 26 _ _ rfl rfl rfl (hmk w2) ?_))
      have HPn := Aside0.mk (HP.out.alloc (.cells (u8s s64').toArray 5 (0, 0)))
      clear HP
      have HP := HPn
      clear HPn
      refine (CE.out _ (some ⟨gb, 0, none⟩) 64 _ 64 (C_tk (C_blkW (k := .u8) (HP.out.blk 1 rfl) (by rw [HSB.out.1]; decide)) 64 (by rw [HSB.out.1]; decide) (List.take_of_length_le (by rw [HSB.out.1]; decide))) (by decide) (C_tk (C_blkW (k := .u8) (l := s64') (HP.out.blk 0 rfl) (by decide)) 64 (by decide) rfl) (by decide)).mono ?_; rintro e w_ ⟨rfl, n_, rfl⟩
      have HPn := Aside0.mk ((HP.out.drewN n_).drop1)
      clear HP CE
      have HP := HPn
      clear HPn
      obtain ⟨w3, hw3⟩ : ∃ z, (w2.alloc (.cells (u8s s64').toArray 5)).drewN n_ = z := ⟨_, rfl⟩
      rw [hw3] at HP ⊢
      clear hw3
      go_wp2_with fail
      have CU := Aside0.mk (c_sunpack (some ⟨gb, 0, none⟩) 64 b _ (C_blkW (k := .u8) (HP.out.blk 0 rfl) (by rw [HSB.out.1]; decide)) (by rw [HSB.out.1]; decide) (by rw [HSB.out.1]; decide) HSB.out.2)
      rw [HSB.out.1] at CU
      refine CU.out.mono ?_; rintro e w4 ⟨rfl, hbl⟩
      have HPn := Aside0.mk ((HP.out.call hbl).drop1)
      clear HP CU hbl
      have HP := HPn
      clear HPn
      have HUL := Aside0.mk (c25_len (unpS b) (unpS_root b))
      have HU1 := Aside0.mk (c25_one (unpS b))
      have HSUP := Aside0.mk (show ∀ g, supR g b = .blk g (.cells (c25 (unpS b)).toArray 25 (0, 0)) from fun g => rfl)
      obtain ⟨cu, hcu⟩ : ∃ z, c25 (unpS b) = z := ⟨_, rfl⟩
      rw [hcu] at HUL HU1 HSUP ⊢
      clear hcu
      obtain ⟨t3, ht3⟩ : ∃ z, isS b = z := ⟨_, rfl⟩
      have HT3 := Aside0.mk ht3
      rw [ht3]
      clear ht3
      cases t3
      · go_wp2_with (first | ((with_reducible refine gate_dst (N := 12) rfl ?_); refine ev_alloc rfl 25 rfl (.agg (c25 s0).toArray) (by kernel_rfl) ?_; intro g_u w5 hge hg hb; have HPn := Aside0.mk (HP.out.newB hb hg hge); clear HP; have HP := HPn; clear HPn; clear hge hg hb) | ((with_reducible refine gate_store (t := 25) (p := 12) rfl ?_); refine ev_store rfl 25 (.tmp 12) (.tmp 46) rfl rfl _ rfl (cells := cu.toArray) rfl (HP.out.blk 0 rfl) (by rw [List.size_toArray, HUL.out]; kernel_rfl) (show (c25 s0).toArray.size = cu.toArray.size from by rw [List.size_toArray, List.size_toArray, HUL.out, c25_len s0 rfl]) HU1.out ?_; intro w6 hg hgr; have HPn := Aside0.mk (HP.out.setB 0 rfl hgr hg); clear HP; have HP := HPn; clear HPn; clear hg hgr) | ((with_reducible refine gate_dst (N := 53) rfl ?_); refine ev_run rfl (v := .slice (some ⟨w6.heap.size, 0, none⟩) 1 1) (w1 := w6.alloc (.cells #[.pointer none] 88)) (by go_simp) ?_; have HPl := Aside0.mk (HP.out.alloc (.cells #[.pointer none] 88 (0, 0)))) | ((with_reducible refine gate_builtin (b := .append) (xs := #[.tmp 52, .tmp 53]) rfl ?_); (try at_builtin); refine ev_append plain_KP HPl.out 2 rfl (.tmp 52) (.tmp 53) 84 88 _ 8 rfl Try.underlying84 infoKP rfl (by decide) (by decide) (.slice A 1 c) [ptrO g0 (sec S 0)] [none] (some ⟨w6.heap.size, 0, none⟩) 1 1 rfl rfl rfl (C_blk1 KP (HPl.out.blk 0 rfl) rfl) (by first | decide | simp) ?_; intro v_n wn hpn; clear HP HPl; have HP := Aside0.mk hpn.drop1; clear hpn))
        obtain ⟨An, cn, rfl⟩ := Kd.R_slice (HP.out.row 1 rfl)
        have HPn := Aside0.mk (show Hp w0 _ (slR w0.heap.size (.slice An 2 cn) S g0 g_u Rs 2) from by
          have h := Hp.rot1 HP.out
          unfold slR
          rw [HBB.out, HSUP.out, ptrO_f HT3.out]
          exact h)
        go_roundg (gk - 1)
        case measure => have := HK.out; omega
        case rel => exact ⟨2, An, cn, g0, g_u, by decide, by have := HK.out; omega, by unfold blkJ blankS; rw [HBB.out, HT2.out, ← HB.out]; (try rfl), rfl, rfl, HPn⟩
      · go_wp2_with (first | ((with_reducible refine gate_dst (N := 12) rfl ?_); refine ev_alloc rfl 25 rfl (.agg (c25 s0).toArray) (by kernel_rfl) ?_; intro g_u w5 hge hg hb; have HPn := Aside0.mk (HP.out.newB hb hg hge); clear HP; have HP := HPn; clear HPn; clear hge hg hb) | ((with_reducible refine gate_store (t := 25) (p := 12) rfl ?_); refine ev_store rfl 25 (.tmp 12) (.tmp 46) rfl rfl _ rfl (cells := cu.toArray) rfl (HP.out.blk 0 rfl) (by rw [List.size_toArray, HUL.out]; kernel_rfl) (show (c25 s0).toArray.size = cu.toArray.size from by rw [List.size_toArray, List.size_toArray, HUL.out, c25_len s0 rfl]) HU1.out ?_; intro w6 hg hgr; have HPn := Aside0.mk (HP.out.setB 0 rfl hgr hg); clear HP; have HP := HPn; clear HPn; clear hg hgr) | ((with_reducible refine gate_dst (N := 50) rfl ?_); refine ev_run rfl (v := .slice (some ⟨w6.heap.size, 0, none⟩) 1 1) (w1 := w6.alloc (.cells #[.pointer (some ⟨g_u, 0, none⟩)] 88)) (by go_simp) ?_; have HPl := Aside0.mk (HP.out.alloc (.cells #[.pointer (some ⟨g_u, 0, none⟩)] 88 (0, 0)))) | ((with_reducible refine gate_builtin (b := .append) (xs := #[.tmp 49, .tmp 50]) rfl ?_); (try at_builtin); refine ev_append plain_KP HPl.out 2 rfl (.tmp 49) (.tmp 50) 84 88 _ 8 rfl Try.underlying84 infoKP rfl (by decide) (by decide) (.slice A 1 c) [ptrO g0 (sec S 0)] [some ⟨g_u, 0, none⟩] (some ⟨w6.heap.size, 0, none⟩) 1 1 rfl rfl rfl (C_blk1 KP (HPl.out.blk 0 rfl) rfl) (by first | decide | simp) ?_; intro v_n wn hpn; clear HP HPl; have HP := Aside0.mk hpn.drop1; clear hpn))
        obtain ⟨An, cn, rfl⟩ := Kd.R_slice (HP.out.row 1 rfl)
        have HPn := Aside0.mk (show Hp w0 _ (slR w0.heap.size (.slice An 2 cn) S g0 g_u Rs 2) from by
          have h := Hp.rot1 HP.out
          unfold slR
          rw [HBB.out, HSUP.out, ptrO_t HT3.out]
          exact h)
        go_roundg (gk - 1)
        case measure => have := HK.out; omega
        case rel => exact ⟨2, An, cn, g0, g_u, by decide, by have := HK.out; omega, by unfold blkJ blankS; rw [HBB.out, HT2.out, ← HB.out]; (try rfl), rfl, rfl, HPn⟩
    · go_wp2_with fail
      refine CR.out.mono ?_; rintro e w2 ⟨gb, rfl, hl64, hpn⟩
      clear HP CR
      have HSB := Aside0.mk (sec_ok HOK.out 1)
      obtain ⟨b, hb⟩ : ∃ z, sec S 1 = z := ⟨_, rfl⟩
      rw [show putF S.at' S.l 1 = b from hb] at hpn hl64
      have HBB := Aside0.mk hb
      rw [hb] at HSB
      have HP := Aside0.mk (show Hp w0 w2 (.blk gb (.cells (u8s b).toArray 93 (0, 0)) :: .row KP 88 w0.heap.size (.slice A 1 c) [ptrO g0 (sec S 0)] :: supR g0 (sec S 0) :: Rs) from hpn)
      clear hpn hl64 hb
      go_wp2_with fail
      have CU := Aside0.mk (c_sunpack (some ⟨gb, 0, none⟩) 64 b _ (C_blkW (k := .u8) (HP.out.blk 0 rfl) (by rw [HSB.out.1]; decide)) (by rw [HSB.out.1]; decide) (by rw [HSB.out.1]; decide) HSB.out.2)
      rw [HSB.out.1] at CU
      refine CU.out.mono ?_; rintro e w4 ⟨rfl, hbl⟩
      have HPn := Aside0.mk ((HP.out.call hbl).drop1)
      clear HP CU hbl
      have HP := HPn
      clear HPn
      have HUL := Aside0.mk (c25_len (unpS b) (unpS_root b))
      have HU1 := Aside0.mk (c25_one (unpS b))
      have HSUP := Aside0.mk (show ∀ g, supR g b = .blk g (.cells (c25 (unpS b)).toArray 25 (0, 0)) from fun g => rfl)
      obtain ⟨cu, hcu⟩ : ∃ z, c25 (unpS b) = z := ⟨_, rfl⟩
      rw [hcu] at HUL HU1 HSUP ⊢
      clear hcu
      obtain ⟨t3, ht3⟩ : ∃ z, isS b = z := ⟨_, rfl⟩
      have HT3 := Aside0.mk ht3
      rw [ht3]
      clear ht3
      cases t3
      · go_wp2_with (first | ((with_reducible refine gate_dst (N := 12) rfl ?_); refine ev_alloc rfl 25 rfl (.agg (c25 s0).toArray) (by kernel_rfl) ?_; intro g_u w5 hge hg hb; have HPn := Aside0.mk (HP.out.newB hb hg hge); clear HP; have HP := HPn; clear HPn; clear hge hg hb) | ((with_reducible refine gate_store (t := 25) (p := 12) rfl ?_); refine ev_store rfl 25 (.tmp 12) (.tmp 46) rfl rfl _ rfl (cells := cu.toArray) rfl (HP.out.blk 0 rfl) (by rw [List.size_toArray, HUL.out]; kernel_rfl) (show (c25 s0).toArray.size = cu.toArray.size from by rw [List.size_toArray, List.size_toArray, HUL.out, c25_len s0 rfl]) HU1.out ?_; intro w6 hg hgr; have HPn := Aside0.mk (HP.out.setB 0 rfl hgr hg); clear HP; have HP := HPn; clear HPn; clear hg hgr) | ((with_reducible refine gate_dst (N := 53) rfl ?_); refine ev_run rfl (v := .slice (some ⟨w6.heap.size, 0, none⟩) 1 1) (w1 := w6.alloc (.cells #[.pointer none] 88)) (by go_simp) ?_; have HPl := Aside0.mk (HP.out.alloc (.cells #[.pointer none] 88 (0, 0)))) | ((with_reducible refine gate_builtin (b := .append) (xs := #[.tmp 52, .tmp 53]) rfl ?_); (try at_builtin); refine ev_append plain_KP HPl.out 2 rfl (.tmp 52) (.tmp 53) 84 88 _ 8 rfl Try.underlying84 infoKP rfl (by decide) (by decide) (.slice A 1 c) [ptrO g0 (sec S 0)] [none] (some ⟨w6.heap.size, 0, none⟩) 1 1 rfl rfl rfl (C_blk1 KP (HPl.out.blk 0 rfl) rfl) (by first | decide | simp) ?_; intro v_n wn hpn; clear HP HPl; have HP := Aside0.mk hpn.drop1; clear hpn))
        obtain ⟨An, cn, rfl⟩ := Kd.R_slice (HP.out.row 1 rfl)
        have HPn := Aside0.mk (show Hp w0 _ (slR w0.heap.size (.slice An 2 cn) S g0 g_u Rs 2) from by
          have h := Hp.rot1 HP.out
          unfold slR
          rw [HBB.out, HSUP.out, ptrO_f HT3.out]
          exact h)
        go_roundg (gk - 1)
        case measure => have := HK.out; omega
        case rel => exact ⟨2, An, cn, g0, g_u, by decide, by have := HK.out; omega, by unfold blkJ blankS; rw [← HB.out]; (try rfl), rfl, rfl, HPn⟩
      · go_wp2_with (first | ((with_reducible refine gate_dst (N := 12) rfl ?_); refine ev_alloc rfl 25 rfl (.agg (c25 s0).toArray) (by kernel_rfl) ?_; intro g_u w5 hge hg hb; have HPn := Aside0.mk (HP.out.newB hb hg hge); clear HP; have HP := HPn; clear HPn; clear hge hg hb) | ((with_reducible refine gate_store (t := 25) (p := 12) rfl ?_); refine ev_store rfl 25 (.tmp 12) (.tmp 46) rfl rfl _ rfl (cells := cu.toArray) rfl (HP.out.blk 0 rfl) (by rw [List.size_toArray, HUL.out]; kernel_rfl) (show (c25 s0).toArray.size = cu.toArray.size from by rw [List.size_toArray, List.size_toArray, HUL.out, c25_len s0 rfl]) HU1.out ?_; intro w6 hg hgr; have HPn := Aside0.mk (HP.out.setB 0 rfl hgr hg); clear HP; have HP := HPn; clear HPn; clear hg hgr) | ((with_reducible refine gate_dst (N := 50) rfl ?_); refine ev_run rfl (v := .slice (some ⟨w6.heap.size, 0, none⟩) 1 1) (w1 := w6.alloc (.cells #[.pointer (some ⟨g_u, 0, none⟩)] 88)) (by go_simp) ?_; have HPl := Aside0.mk (HP.out.alloc (.cells #[.pointer (some ⟨g_u, 0, none⟩)] 88 (0, 0)))) | ((with_reducible refine gate_builtin (b := .append) (xs := #[.tmp 49, .tmp 50]) rfl ?_); (try at_builtin); refine ev_append plain_KP HPl.out 2 rfl (.tmp 49) (.tmp 50) 84 88 _ 8 rfl Try.underlying84 infoKP rfl (by decide) (by decide) (.slice A 1 c) [ptrO g0 (sec S 0)] [some ⟨g_u, 0, none⟩] (some ⟨w6.heap.size, 0, none⟩) 1 1 rfl rfl rfl (C_blk1 KP (HPl.out.blk 0 rfl) rfl) (by first | decide | simp) ?_; intro v_n wn hpn; clear HP HPl; have HP := Aside0.mk hpn.drop1; clear hpn))
        obtain ⟨An, cn, rfl⟩ := Kd.R_slice (HP.out.row 1 rfl)
        have HPn := Aside0.mk (show Hp w0 _ (slR w0.heap.size (.slice An 2 cn) S g0 g_u Rs 2) from by
          have h := Hp.rot1 HP.out
          unfold slR
          rw [HBB.out, HSUP.out, ptrO_t HT3.out]
          exact h)
        go_roundg (gk - 1)
        case measure => have := HK.out; omega
        case rel => exact ⟨2, An, cn, g0, g_u, by decide, by have := HK.out; omega, by unfold blkJ blankS; rw [← HB.out]; (try rfl), rfl, rfl, HPn⟩
  | 2, _, hk =>
    clear hk
    go_wp2_with fail
    refine bodyPost_ret (results_three rfl _ _ rfl rfl rfl) rfl ?_
    exact Or.inr ⟨HE.out, A, c, g0, g1, rfl, HP.out⟩
end Go.Proofs.Ytgflghnbpbiakaa.Su
namespace Go.Proofs.Ytgflghnbpbiakaa.Su
open Go.Proofs.Ytgflghnbpbiakaa.H hiding C_ints cellL cellN ev_copy ev_store_mid frozC i64k run_cut_all run_cut_arr run_cut_to setL set_self
open Go.RowKit Go.Proofs.Ytgflghnbpbiakaa.XH Go.Proofs.YtgflghnbpbiakaaW.PrintWords Go.Proofs.YtgflghnbpbiakaaW.PrintLast Go.Proofs.YtgflghnbpbiakaaW.PrintMore Go.Proofs.YtgflghnbpbiakaaXe Go.Proofs.YtgflghnbpbiakaaXs
set_option linter.unusedVariables false
set_option linter.unusedSimpArgs false
attribute [local go_sem ↓] Go.wp_at_zero Go.wp_at_succ
attribute [local go_sem] valUpon
open Go.Proofs.Ytgflghnbpbiakaa.D hiding c_len c_new c_write
noncomputable def bestB (b0 b1 : List Int) : Int := if isS b0 then (if isS b1 then (if (unpS b0).num < (unpS b1).num then 1 else 0) else 0) else if isS b1 then 1 else -1
theorem rowP {w : World} {bA oA c : Nat} {o0 o1 : Option Addr} {e base : Nat} {F : Nat → Prop} (h : KP.R e w base F (.slice (some ⟨bA, oA, none⟩) 2 c) [o0, o1]) : w.cell? ⟨bA, oA, none⟩ = some (.pointer o0) ∧ w.cell? ⟨bA, oA + 1, none⟩ = some (.pointer o1) := by
  have hC := (Kd.R_reads' h).2.2
  obtain ⟨c0, k0, r0⟩ := range_K hC (j := 0) (x := o0) rfl
  obtain ⟨c1, k1, r1⟩ := range_K hC (j := 1) (x := o1) rfl
  have k0' : c0 = [.pointer o0] := k0
  have k1' : c1 = [.pointer o1] := k1
  subst k0' k1'
  exact ⟨r0 0 _ rfl, r1 0 _ rfl⟩
theorem rowA {w : World} {A : Option Addr} {c : Nat} {o0 o1 : Option Addr} {e base : Nat} {F : Nat → Prop} (h : KP.R e w base F (.slice A 2 c) [o0, o1]) : ∃ bA oA, A = some ⟨bA, oA, none⟩ := C_addrK (by decide) (Kd.R_reads' h).2.2 (Nat.succ_pos _)
set_option maxHeartbeats 8000000 in
set_option maxRecDepth 100000 in
theorem c_greatest {w0 w : World} {Rs : List Res} (S : DS) (A : Option Addr) (c g0 g1 : Nat) (HP0 : Hp w0 w (slR w0.heap.size (.slice A 2 c) S g0 g1 Rs 2)) :
    Calls Try.prog 47 #[.slice A 2 c] w fun e w' => e = .returned (.int .i64 (bestB (sec S 0) (sec S 1))) ∧ Hp w0 w' (slR w0.heap.size (.slice A 2 c) S g0 g1 Rs 2) := by
  obtain ⟨bA, oA, rfl⟩ := rowA (HP0.row 0 rfl)
  have HP := Aside0.mk HP0
  obtain ⟨n0, hn0⟩ : ∃ z, (unpS (sec S 0)).num = z := ⟨_, rfl⟩
  obtain ⟨n1, hn1⟩ : ∃ z, (unpS (sec S 1)).num = z := ⟨_, rfl⟩
  obtain ⟨L, hL⟩ : ∃ z, slR w0.heap.size (.slice (some ⟨bA, oA, none⟩) 2 c) S g0 g1 Rs 2 = z := ⟨_, rfl⟩
  have HB : Aside0 (bestB (sec S 0) (sec S 1) = if isS (sec S 0) then (if isS (sec S 1) then (if n0 < n1 then 1 else 0) else 0) else if isS (sec S 1) then 1 else -1) := ⟨by rw [← hn0, ← hn1]; rfl⟩
  obtain ⟨e0, he0⟩ : ∃ z, isS (sec S 0) = z := ⟨_, rfl⟩
  obtain ⟨e1, he1⟩ : ∃ z, isS (sec S 1) = z := ⟨_, rfl⟩
  have HF := Aside0.mk (fun (W : World) (h : Hp w0 W L) => (show (W.cell? ⟨bA, oA, none⟩ = some (.pointer (if e0 then some ⟨g0, 0, none⟩ else none)) ∧ W.cell? ⟨bA, oA + 1, none⟩ = some (.pointer (if e1 then some ⟨g1, 0, none⟩ else none))) ∧ W.cell? ⟨g0, 0, none⟩ = some (.int .i64 n0) ∧ W.cell? ⟨g1, 0, none⟩ = some (.int .i64 n1) from by
    rw [← hL] at h
    refine ⟨?_, ?_, ?_⟩
    · rw [← he0, ← he1]; exact rowP (h.row 0 rfl)
    · rw [← hn0]; exact cell_in (h.blk 2 rfl) 0 (c25_0 _)
    · rw [← hn1]; exact cell_in (h.blk 1 rfl) 0 (c25_0 _)))
  rw [he0, he1] at HB
  obtain ⟨B, hB⟩ : ∃ z, bestB (sec S 0) (sec S 1) = z := ⟨_, rfl⟩
  rw [hB] at HB ⊢
  rw [hL] at HP ⊢
  clear hn0 hn1 hL HP0 he0 he1 hB
  cases e0
  · cases e1
    · have HBV := Aside0.mk (show B = -1 from by rw [HB.out]; rfl)
      clear HB
      have HG := Aside0.mk (fun (W : World) (h : Hp w0 W L) => (show (W.cell? ⟨bA, oA, none⟩ = some (.pointer none) ∧ W.cell? ⟨bA, oA + 1, none⟩ = some (.pointer none)) ∧ W.cell? ⟨g0, 0, none⟩ = some (.int .i64 n0) ∧ W.cell? ⟨g1, 0, none⟩ = some (.int .i64 n1) from HF.out W h))
      clear HF
      go_enter Try.func47, Try.ntmps47
      go_wp2_with fail
      go_loopg [3, 4, 5, 8] 2 (fun kq v3 v4 v5 v8 w' => ∃ (j : Nat), j ≤ 2 ∧ kq + j = 2 ∧ v3 = .int .i64 (match j with | 0 => -1 | 1 => -1 | _ => -1) ∧ v8 = .int .i64 (j : Int) ∧ Aside0 (Hp w0 w' L))
      case atStart => exact ⟨0, by decide, rfl, rfl, rfl, HP⟩
      clear HP
      obtain ⟨j, hj, hk, rfl, rfl, HP⟩ := hrel
      match j, hj, hk with
      | 0, _, hk =>
        have HK := Aside0.mk hk
        clear hk
        have hx := (HG.out _ HP.out).1.1
        go_wp2_with fail
        clear hx
        refine held_named (S := (fun w' => w'.cell? ⟨g0, 0, none⟩ = some (.int .i64 n0) ∧ w'.cell? ⟨g1, 0, none⟩ = some (.int .i64 n1) ∧ w'.cell? ⟨bA, oA, none⟩ = some (.pointer none))) (by kernel_rfl) (fun wd0 hwd0 => ?_)
        have HPn := Aside0.mk (HP.out.drewN 1)
        rw [← World.drew_is_drewN, hwd0] at HPn
        clear HP hwd0
        have HP := HPn
        clear HPn
        refine ⟨by (try dsimp only); exact ⟨(HG.out _ HP.out).2.1, (HG.out _ HP.out).2.2, (HG.out _ HP.out).1.1⟩, fun hHeld => ?_⟩
        refine wpAnyH_take (i := 0) (oi := ({ dst := (some 13), op := (Op.move (Operand.tmp 5)), type := 88, pos := "super.go:89", after := #[], guard := none } : Oper)) (v := ?_) rfl (by kernel_rfl) (by kernel_rfl) (by kernel_rfl) (fun _ _ _ h => h) (Or.inl ⟨by rfl, ?_⟩) hHeld ?_
        rotate_left
        · intro w_ hSw; (try dsimp only at hSw); go_simp; try (with_reducible rfl)
        try simp only [Act.put, List.setIfInBounds_toArray, List.set_cons_zero, List.set_cons_succ]
        refine wpAnyH_take (i := 1) (oi := ({ dst := (some 14), op := (Op.binOp BinOp.neq 88 (Operand.tmp 13) (Operand.const (Value.pointer none)) 88), type := 4, pos := "super.go:89", after := #[{ on := 0, ground := Ground.data }], guard := none } : Oper)) (v := ?_) rfl (by kernel_rfl) (by kernel_rfl) (by kernel_rfl) (fun _ _ _ h => h) (Or.inl ⟨by rfl, ?_⟩) hHeld ?_
        rotate_left
        · intro w_ hSw; (try dsimp only at hSw); go_simp; try (with_reducible rfl)
        try simp only [Act.put, List.setIfInBounds_toArray, List.set_cons_zero, List.set_cons_succ]
        refine wpAnyH_take (i := 2) (oi := ({ dst := (some 15), op := (Op.move (Operand.tmp 14)), type := 4, pos := "super.go:89", after := #[{ on := 1, ground := Ground.data }], guard := none } : Oper)) (v := ?_) rfl (by kernel_rfl) (by kernel_rfl) (by kernel_rfl) (fun _ _ _ h => h) (Or.inl ⟨by rfl, ?_⟩) hHeld ?_
        rotate_left
        · intro w_ hSw; (try dsimp only at hSw); go_simp; try (with_reducible rfl)
        try simp only [Act.put, List.setIfInBounds_toArray, List.set_cons_zero, List.set_cons_succ]
        refine wpAnyH_take (i := 3) (oi := ({ dst := (some 16), op := (Op.move (Operand.tmp 3)), type := 3, pos := "super.go:89", after := #[{ on := 2, ground := Ground.guard }], guard := (some (2, true)) } : Oper)) (v := _) rfl (by kernel_rfl) (by kernel_rfl) (by kernel_rfl) (fun _ _ _ h => h) (Or.inr ⟨by rfl, rfl⟩) hHeld ?_
        try simp only [Act.put, List.setIfInBounds_toArray, List.set_cons_zero, List.set_cons_succ]
        refine wpAnyH_take (i := 4) (oi := ({ dst := (some 17), op := (Op.binOp BinOp.lss 3 (Operand.tmp 16) (Operand.const (Value.int IntKind.i64 0)) 3), type := 4, pos := "super.go:89", after := #[{ on := 3, ground := Ground.data }, { on := 2, ground := Ground.guard }], guard := (some (2, true)) } : Oper)) (v := _) rfl (by kernel_rfl) (by kernel_rfl) (by kernel_rfl) (fun _ _ _ h => h) (Or.inr ⟨by rfl, rfl⟩) hHeld ?_
        try simp only [Act.put, List.setIfInBounds_toArray, List.set_cons_zero, List.set_cons_succ]
        refine wpAnyH_take (i := 5) (oi := ({ dst := (some 18), op := (Op.move (Operand.tmp 17)), type := 4, pos := "super.go:89", after := #[{ on := 4, ground := Ground.data }, { on := 2, ground := Ground.chain }, { on := 2, ground := Ground.guard }], guard := (some (2, true)) } : Oper)) (v := _) rfl (by kernel_rfl) (by kernel_rfl) (by kernel_rfl) (fun _ _ _ h => h) (Or.inr ⟨by rfl, rfl⟩) hHeld ?_
        try simp only [Act.put, List.setIfInBounds_toArray, List.set_cons_zero, List.set_cons_succ]
        refine wpAnyH_take (i := 6) (oi := ({ dst := (some 19), op := (Op.move (Operand.tmp 5)), type := 88, pos := "super.go:89", after := #[{ on := 5, ground := Ground.guard }], guard := (some (5, false)) } : Oper)) (v := _) rfl (by kernel_rfl) (by kernel_rfl) (by kernel_rfl) (fun _ _ _ h => h) (Or.inr ⟨by rfl, rfl⟩) hHeld ?_
        try simp only [Act.put, List.setIfInBounds_toArray, List.set_cons_zero, List.set_cons_succ]
        refine wpAnyH_take (i := 7) (oi := ({ dst := (some 20), op := (Op.nilCheck (Operand.tmp 19)), type := 0, pos := "super.go:89", after := #[{ on := 6, ground := Ground.data }, { on := 5, ground := Ground.guard }], guard := (some (5, false)) } : Oper)) (v := _) rfl (by kernel_rfl) (by kernel_rfl) (by kernel_rfl) (fun _ _ _ h => h) (Or.inr ⟨by rfl, rfl⟩) hHeld ?_
        try simp only [Act.put, List.setIfInBounds_toArray, List.set_cons_zero, List.set_cons_succ]
        refine wpAnyH_take (i := 8) (oi := ({ dst := (some 21), op := (Op.fieldAddr 25 (Operand.tmp 20) 0), type := 0, pos := "super.go:89", after := #[{ on := 7, ground := Ground.data }, { on := 5, ground := Ground.guard }], guard := (some (5, false)) } : Oper)) (v := _) rfl (by kernel_rfl) (by kernel_rfl) (by kernel_rfl) (fun _ _ _ h => h) (Or.inr ⟨by rfl, rfl⟩) hHeld ?_
        try simp only [Act.put, List.setIfInBounds_toArray, List.set_cons_zero, List.set_cons_succ]
        refine wpAnyH_take (i := 9) (oi := ({ dst := (some 22), op := (Op.load 3 (Operand.tmp 21)), type := 3, pos := "super.go:89", after := #[{ on := 8, ground := Ground.data }, { on := 5, ground := Ground.guard }], guard := (some (5, false)) } : Oper)) (v := _) rfl (by kernel_rfl) (by kernel_rfl) (by kernel_rfl) (fun _ _ _ h => h) (Or.inr ⟨by rfl, rfl⟩) hHeld ?_
        try simp only [Act.put, List.setIfInBounds_toArray, List.set_cons_zero, List.set_cons_succ]
        refine wpAnyH_take (i := 10) (oi := ({ dst := (some 23), op := (Op.move (Operand.tmp 0)), type := 84, pos := "super.go:89", after := #[{ on := 5, ground := Ground.guard }], guard := (some (5, false)) } : Oper)) (v := _) rfl (by kernel_rfl) (by kernel_rfl) (by kernel_rfl) (fun _ _ _ h => h) (Or.inr ⟨by rfl, rfl⟩) hHeld ?_
        try simp only [Act.put, List.setIfInBounds_toArray, List.set_cons_zero, List.set_cons_succ]
        refine wpAnyH_take (i := 11) (oi := ({ dst := (some 24), op := (Op.move (Operand.tmp 3)), type := 3, pos := "super.go:89", after := #[{ on := 5, ground := Ground.guard }], guard := (some (5, false)) } : Oper)) (v := _) rfl (by kernel_rfl) (by kernel_rfl) (by kernel_rfl) (fun _ _ _ h => h) (Or.inr ⟨by rfl, rfl⟩) hHeld ?_
        try simp only [Act.put, List.setIfInBounds_toArray, List.set_cons_zero, List.set_cons_succ]
        refine wpAnyH_take (i := 12) (oi := ({ dst := (some 25), op := (Op.indexAddr 84 (Operand.tmp 23) (Operand.tmp 24)), type := 0, pos := "super.go:89", after := #[{ on := 10, ground := Ground.data }, { on := 11, ground := Ground.data }, { on := 5, ground := Ground.guard }], guard := (some (5, false)) } : Oper)) (v := _) rfl (by kernel_rfl) (by kernel_rfl) (by kernel_rfl) (fun _ _ _ h => h) (Or.inr ⟨by rfl, rfl⟩) hHeld ?_
        try simp only [Act.put, List.setIfInBounds_toArray, List.set_cons_zero, List.set_cons_succ]
        refine wpAnyH_take (i := 13) (oi := ({ dst := (some 26), op := (Op.load 88 (Operand.tmp 25)), type := 88, pos := "super.go:89", after := #[{ on := 12, ground := Ground.data }, { on := 5, ground := Ground.guard }], guard := (some (5, false)) } : Oper)) (v := _) rfl (by kernel_rfl) (by kernel_rfl) (by kernel_rfl) (fun _ _ _ h => h) (Or.inr ⟨by rfl, rfl⟩) hHeld ?_
        try simp only [Act.put, List.setIfInBounds_toArray, List.set_cons_zero, List.set_cons_succ]
        refine wpAnyH_take (i := 14) (oi := ({ dst := (some 27), op := (Op.nilCheck (Operand.tmp 26)), type := 0, pos := "super.go:89", after := #[{ on := 13, ground := Ground.data }, { on := 5, ground := Ground.guard }], guard := (some (5, false)) } : Oper)) (v := _) rfl (by kernel_rfl) (by kernel_rfl) (by kernel_rfl) (fun _ _ _ h => h) (Or.inr ⟨by rfl, rfl⟩) hHeld ?_
        try simp only [Act.put, List.setIfInBounds_toArray, List.set_cons_zero, List.set_cons_succ]
        refine wpAnyH_take (i := 15) (oi := ({ dst := (some 28), op := (Op.fieldAddr 25 (Operand.tmp 27) 0), type := 0, pos := "super.go:89", after := #[{ on := 14, ground := Ground.data }, { on := 5, ground := Ground.guard }], guard := (some (5, false)) } : Oper)) (v := _) rfl (by kernel_rfl) (by kernel_rfl) (by kernel_rfl) (fun _ _ _ h => h) (Or.inr ⟨by rfl, rfl⟩) hHeld ?_
        try simp only [Act.put, List.setIfInBounds_toArray, List.set_cons_zero, List.set_cons_succ]
        refine wpAnyH_take (i := 16) (oi := ({ dst := (some 29), op := (Op.load 3 (Operand.tmp 28)), type := 3, pos := "super.go:89", after := #[{ on := 15, ground := Ground.data }, { on := 5, ground := Ground.guard }], guard := (some (5, false)) } : Oper)) (v := _) rfl (by kernel_rfl) (by kernel_rfl) (by kernel_rfl) (fun _ _ _ h => h) (Or.inr ⟨by rfl, rfl⟩) hHeld ?_
        try simp only [Act.put, List.setIfInBounds_toArray, List.set_cons_zero, List.set_cons_succ]
        refine wpAnyH_take (i := 17) (oi := ({ dst := (some 30), op := (Op.binOp BinOp.gtr 3 (Operand.tmp 22) (Operand.tmp 29) 3), type := 4, pos := "super.go:89", after := #[{ on := 9, ground := Ground.data }, { on := 16, ground := Ground.data }, { on := 5, ground := Ground.guard }], guard := (some (5, false)) } : Oper)) (v := _) rfl (by kernel_rfl) (by kernel_rfl) (by kernel_rfl) (fun _ _ _ h => h) (Or.inr ⟨by rfl, rfl⟩) hHeld ?_
        try simp only [Act.put, List.setIfInBounds_toArray, List.set_cons_zero, List.set_cons_succ]
        refine wpAnyH_take (i := 18) (oi := ({ dst := (some 31), op := (Op.pick (Operand.tmp 18) (Operand.const (Value.bool true)) (Operand.tmp 30)), type := 4, pos := "super.go:89", after := #[{ on := 5, ground := Ground.data }, { on := 17, ground := Ground.data }, { on := 2, ground := Ground.guard }], guard := (some (2, true)) } : Oper)) (v := _) rfl (by kernel_rfl) (by kernel_rfl) (by kernel_rfl) (fun _ _ _ h => h) (Or.inr ⟨by rfl, rfl⟩) hHeld ?_
        try simp only [Act.put, List.setIfInBounds_toArray, List.set_cons_zero, List.set_cons_succ]
        refine wpAnyH_take (i := 19) (oi := ({ dst := (some 32), op := (Op.pick (Operand.tmp 15) (Operand.tmp 31) (Operand.const (Value.bool false))), type := 4, pos := "super.go:89", after := #[{ on := 2, ground := Ground.data }, { on := 18, ground := Ground.data }], guard := none } : Oper)) (v := ?_) rfl (by kernel_rfl) (by kernel_rfl) (by kernel_rfl) (fun _ _ _ h => h) (Or.inl ⟨by rfl, ?_⟩) hHeld ?_
        rotate_left
        · intro w_ hSw; (try dsimp only at hSw); go_simp; try (with_reducible rfl)
        try simp only [Act.put, List.setIfInBounds_toArray, List.set_cons_zero, List.set_cons_succ]
        refine wpAnyH_done (by kernel_rfl) ?_ _
        clear hHeld
        go_wp2_with fail
        go_roundg (gk - 1)
        case measure => have := HK.out; omega
        case rel => exact ⟨1, by decide, by have := HK.out; omega, rfl, rfl, HP⟩
      | 1, _, hk =>
        have HK := Aside0.mk hk
        clear hk
        have hx := (HG.out _ HP.out).1.2
        go_wp2_with fail
        clear hx
        refine held_named (S := (fun w' => w'.cell? ⟨g0, 0, none⟩ = some (.int .i64 n0) ∧ w'.cell? ⟨g1, 0, none⟩ = some (.int .i64 n1) ∧ w'.cell? ⟨bA, oA, none⟩ = some (.pointer none))) (by kernel_rfl) (fun wd0 hwd0 => ?_)
        have HPn := Aside0.mk (HP.out.drewN 1)
        rw [← World.drew_is_drewN, hwd0] at HPn
        clear HP hwd0
        have HP := HPn
        clear HPn
        refine ⟨by (try dsimp only); exact ⟨(HG.out _ HP.out).2.1, (HG.out _ HP.out).2.2, (HG.out _ HP.out).1.1⟩, fun hHeld => ?_⟩
        refine wpAnyH_take (i := 0) (oi := ({ dst := (some 13), op := (Op.move (Operand.tmp 5)), type := 88, pos := "super.go:89", after := #[], guard := none } : Oper)) (v := ?_) rfl (by kernel_rfl) (by kernel_rfl) (by kernel_rfl) (fun _ _ _ h => h) (Or.inl ⟨by rfl, ?_⟩) hHeld ?_
        rotate_left
        · intro w_ hSw; (try dsimp only at hSw); go_simp; try (with_reducible rfl)
        try simp only [Act.put, List.setIfInBounds_toArray, List.set_cons_zero, List.set_cons_succ]
        refine wpAnyH_take (i := 1) (oi := ({ dst := (some 14), op := (Op.binOp BinOp.neq 88 (Operand.tmp 13) (Operand.const (Value.pointer none)) 88), type := 4, pos := "super.go:89", after := #[{ on := 0, ground := Ground.data }], guard := none } : Oper)) (v := ?_) rfl (by kernel_rfl) (by kernel_rfl) (by kernel_rfl) (fun _ _ _ h => h) (Or.inl ⟨by rfl, ?_⟩) hHeld ?_
        rotate_left
        · intro w_ hSw; (try dsimp only at hSw); go_simp; try (with_reducible rfl)
        try simp only [Act.put, List.setIfInBounds_toArray, List.set_cons_zero, List.set_cons_succ]
        refine wpAnyH_take (i := 2) (oi := ({ dst := (some 15), op := (Op.move (Operand.tmp 14)), type := 4, pos := "super.go:89", after := #[{ on := 1, ground := Ground.data }], guard := none } : Oper)) (v := ?_) rfl (by kernel_rfl) (by kernel_rfl) (by kernel_rfl) (fun _ _ _ h => h) (Or.inl ⟨by rfl, ?_⟩) hHeld ?_
        rotate_left
        · intro w_ hSw; (try dsimp only at hSw); go_simp; try (with_reducible rfl)
        try simp only [Act.put, List.setIfInBounds_toArray, List.set_cons_zero, List.set_cons_succ]
        refine wpAnyH_take (i := 3) (oi := ({ dst := (some 16), op := (Op.move (Operand.tmp 3)), type := 3, pos := "super.go:89", after := #[{ on := 2, ground := Ground.guard }], guard := (some (2, true)) } : Oper)) (v := _) rfl (by kernel_rfl) (by kernel_rfl) (by kernel_rfl) (fun _ _ _ h => h) (Or.inr ⟨by rfl, rfl⟩) hHeld ?_
        try simp only [Act.put, List.setIfInBounds_toArray, List.set_cons_zero, List.set_cons_succ]
        refine wpAnyH_take (i := 4) (oi := ({ dst := (some 17), op := (Op.binOp BinOp.lss 3 (Operand.tmp 16) (Operand.const (Value.int IntKind.i64 0)) 3), type := 4, pos := "super.go:89", after := #[{ on := 3, ground := Ground.data }, { on := 2, ground := Ground.guard }], guard := (some (2, true)) } : Oper)) (v := _) rfl (by kernel_rfl) (by kernel_rfl) (by kernel_rfl) (fun _ _ _ h => h) (Or.inr ⟨by rfl, rfl⟩) hHeld ?_
        try simp only [Act.put, List.setIfInBounds_toArray, List.set_cons_zero, List.set_cons_succ]
        refine wpAnyH_take (i := 5) (oi := ({ dst := (some 18), op := (Op.move (Operand.tmp 17)), type := 4, pos := "super.go:89", after := #[{ on := 4, ground := Ground.data }, { on := 2, ground := Ground.chain }, { on := 2, ground := Ground.guard }], guard := (some (2, true)) } : Oper)) (v := _) rfl (by kernel_rfl) (by kernel_rfl) (by kernel_rfl) (fun _ _ _ h => h) (Or.inr ⟨by rfl, rfl⟩) hHeld ?_
        try simp only [Act.put, List.setIfInBounds_toArray, List.set_cons_zero, List.set_cons_succ]
        refine wpAnyH_take (i := 6) (oi := ({ dst := (some 19), op := (Op.move (Operand.tmp 5)), type := 88, pos := "super.go:89", after := #[{ on := 5, ground := Ground.guard }], guard := (some (5, false)) } : Oper)) (v := _) rfl (by kernel_rfl) (by kernel_rfl) (by kernel_rfl) (fun _ _ _ h => h) (Or.inr ⟨by rfl, rfl⟩) hHeld ?_
        try simp only [Act.put, List.setIfInBounds_toArray, List.set_cons_zero, List.set_cons_succ]
        refine wpAnyH_take (i := 7) (oi := ({ dst := (some 20), op := (Op.nilCheck (Operand.tmp 19)), type := 0, pos := "super.go:89", after := #[{ on := 6, ground := Ground.data }, { on := 5, ground := Ground.guard }], guard := (some (5, false)) } : Oper)) (v := _) rfl (by kernel_rfl) (by kernel_rfl) (by kernel_rfl) (fun _ _ _ h => h) (Or.inr ⟨by rfl, rfl⟩) hHeld ?_
        try simp only [Act.put, List.setIfInBounds_toArray, List.set_cons_zero, List.set_cons_succ]
        refine wpAnyH_take (i := 8) (oi := ({ dst := (some 21), op := (Op.fieldAddr 25 (Operand.tmp 20) 0), type := 0, pos := "super.go:89", after := #[{ on := 7, ground := Ground.data }, { on := 5, ground := Ground.guard }], guard := (some (5, false)) } : Oper)) (v := _) rfl (by kernel_rfl) (by kernel_rfl) (by kernel_rfl) (fun _ _ _ h => h) (Or.inr ⟨by rfl, rfl⟩) hHeld ?_
        try simp only [Act.put, List.setIfInBounds_toArray, List.set_cons_zero, List.set_cons_succ]
        refine wpAnyH_take (i := 9) (oi := ({ dst := (some 22), op := (Op.load 3 (Operand.tmp 21)), type := 3, pos := "super.go:89", after := #[{ on := 8, ground := Ground.data }, { on := 5, ground := Ground.guard }], guard := (some (5, false)) } : Oper)) (v := _) rfl (by kernel_rfl) (by kernel_rfl) (by kernel_rfl) (fun _ _ _ h => h) (Or.inr ⟨by rfl, rfl⟩) hHeld ?_
        try simp only [Act.put, List.setIfInBounds_toArray, List.set_cons_zero, List.set_cons_succ]
        refine wpAnyH_take (i := 10) (oi := ({ dst := (some 23), op := (Op.move (Operand.tmp 0)), type := 84, pos := "super.go:89", after := #[{ on := 5, ground := Ground.guard }], guard := (some (5, false)) } : Oper)) (v := _) rfl (by kernel_rfl) (by kernel_rfl) (by kernel_rfl) (fun _ _ _ h => h) (Or.inr ⟨by rfl, rfl⟩) hHeld ?_
        try simp only [Act.put, List.setIfInBounds_toArray, List.set_cons_zero, List.set_cons_succ]
        refine wpAnyH_take (i := 11) (oi := ({ dst := (some 24), op := (Op.move (Operand.tmp 3)), type := 3, pos := "super.go:89", after := #[{ on := 5, ground := Ground.guard }], guard := (some (5, false)) } : Oper)) (v := _) rfl (by kernel_rfl) (by kernel_rfl) (by kernel_rfl) (fun _ _ _ h => h) (Or.inr ⟨by rfl, rfl⟩) hHeld ?_
        try simp only [Act.put, List.setIfInBounds_toArray, List.set_cons_zero, List.set_cons_succ]
        refine wpAnyH_take (i := 12) (oi := ({ dst := (some 25), op := (Op.indexAddr 84 (Operand.tmp 23) (Operand.tmp 24)), type := 0, pos := "super.go:89", after := #[{ on := 10, ground := Ground.data }, { on := 11, ground := Ground.data }, { on := 5, ground := Ground.guard }], guard := (some (5, false)) } : Oper)) (v := _) rfl (by kernel_rfl) (by kernel_rfl) (by kernel_rfl) (fun _ _ _ h => h) (Or.inr ⟨by rfl, rfl⟩) hHeld ?_
        try simp only [Act.put, List.setIfInBounds_toArray, List.set_cons_zero, List.set_cons_succ]
        refine wpAnyH_take (i := 13) (oi := ({ dst := (some 26), op := (Op.load 88 (Operand.tmp 25)), type := 88, pos := "super.go:89", after := #[{ on := 12, ground := Ground.data }, { on := 5, ground := Ground.guard }], guard := (some (5, false)) } : Oper)) (v := _) rfl (by kernel_rfl) (by kernel_rfl) (by kernel_rfl) (fun _ _ _ h => h) (Or.inr ⟨by rfl, rfl⟩) hHeld ?_
        try simp only [Act.put, List.setIfInBounds_toArray, List.set_cons_zero, List.set_cons_succ]
        refine wpAnyH_take (i := 14) (oi := ({ dst := (some 27), op := (Op.nilCheck (Operand.tmp 26)), type := 0, pos := "super.go:89", after := #[{ on := 13, ground := Ground.data }, { on := 5, ground := Ground.guard }], guard := (some (5, false)) } : Oper)) (v := _) rfl (by kernel_rfl) (by kernel_rfl) (by kernel_rfl) (fun _ _ _ h => h) (Or.inr ⟨by rfl, rfl⟩) hHeld ?_
        try simp only [Act.put, List.setIfInBounds_toArray, List.set_cons_zero, List.set_cons_succ]
        refine wpAnyH_take (i := 15) (oi := ({ dst := (some 28), op := (Op.fieldAddr 25 (Operand.tmp 27) 0), type := 0, pos := "super.go:89", after := #[{ on := 14, ground := Ground.data }, { on := 5, ground := Ground.guard }], guard := (some (5, false)) } : Oper)) (v := _) rfl (by kernel_rfl) (by kernel_rfl) (by kernel_rfl) (fun _ _ _ h => h) (Or.inr ⟨by rfl, rfl⟩) hHeld ?_
        try simp only [Act.put, List.setIfInBounds_toArray, List.set_cons_zero, List.set_cons_succ]
        refine wpAnyH_take (i := 16) (oi := ({ dst := (some 29), op := (Op.load 3 (Operand.tmp 28)), type := 3, pos := "super.go:89", after := #[{ on := 15, ground := Ground.data }, { on := 5, ground := Ground.guard }], guard := (some (5, false)) } : Oper)) (v := _) rfl (by kernel_rfl) (by kernel_rfl) (by kernel_rfl) (fun _ _ _ h => h) (Or.inr ⟨by rfl, rfl⟩) hHeld ?_
        try simp only [Act.put, List.setIfInBounds_toArray, List.set_cons_zero, List.set_cons_succ]
        refine wpAnyH_take (i := 17) (oi := ({ dst := (some 30), op := (Op.binOp BinOp.gtr 3 (Operand.tmp 22) (Operand.tmp 29) 3), type := 4, pos := "super.go:89", after := #[{ on := 9, ground := Ground.data }, { on := 16, ground := Ground.data }, { on := 5, ground := Ground.guard }], guard := (some (5, false)) } : Oper)) (v := _) rfl (by kernel_rfl) (by kernel_rfl) (by kernel_rfl) (fun _ _ _ h => h) (Or.inr ⟨by rfl, rfl⟩) hHeld ?_
        try simp only [Act.put, List.setIfInBounds_toArray, List.set_cons_zero, List.set_cons_succ]
        refine wpAnyH_take (i := 18) (oi := ({ dst := (some 31), op := (Op.pick (Operand.tmp 18) (Operand.const (Value.bool true)) (Operand.tmp 30)), type := 4, pos := "super.go:89", after := #[{ on := 5, ground := Ground.data }, { on := 17, ground := Ground.data }, { on := 2, ground := Ground.guard }], guard := (some (2, true)) } : Oper)) (v := _) rfl (by kernel_rfl) (by kernel_rfl) (by kernel_rfl) (fun _ _ _ h => h) (Or.inr ⟨by rfl, rfl⟩) hHeld ?_
        try simp only [Act.put, List.setIfInBounds_toArray, List.set_cons_zero, List.set_cons_succ]
        refine wpAnyH_take (i := 19) (oi := ({ dst := (some 32), op := (Op.pick (Operand.tmp 15) (Operand.tmp 31) (Operand.const (Value.bool false))), type := 4, pos := "super.go:89", after := #[{ on := 2, ground := Ground.data }, { on := 18, ground := Ground.data }], guard := none } : Oper)) (v := ?_) rfl (by kernel_rfl) (by kernel_rfl) (by kernel_rfl) (fun _ _ _ h => h) (Or.inl ⟨by rfl, ?_⟩) hHeld ?_
        rotate_left
        · intro w_ hSw; (try dsimp only at hSw); go_simp; try (with_reducible rfl)
        try simp only [Act.put, List.setIfInBounds_toArray, List.set_cons_zero, List.set_cons_succ]
        refine wpAnyH_done (by kernel_rfl) ?_ _
        clear hHeld
        go_wp2_with fail
        go_roundg (gk - 1)
        case measure => have := HK.out; omega
        case rel => exact ⟨2, by decide, by have := HK.out; omega, rfl, rfl, HP⟩
      | 2, _, hk =>
        clear hk
        go_wp2_with fail
        go_ret
        exact ⟨by rw [HBV.out]; rfl, HP.out⟩
    · have HBV := Aside0.mk (show B = 1 from by rw [HB.out]; rfl)
      clear HB
      have HG := Aside0.mk (fun (W : World) (h : Hp w0 W L) => (show (W.cell? ⟨bA, oA, none⟩ = some (.pointer none) ∧ W.cell? ⟨bA, oA + 1, none⟩ = some (.pointer (some ⟨g1, 0, none⟩))) ∧ W.cell? ⟨g0, 0, none⟩ = some (.int .i64 n0) ∧ W.cell? ⟨g1, 0, none⟩ = some (.int .i64 n1) from HF.out W h))
      clear HF
      go_enter Try.func47, Try.ntmps47
      go_wp2_with fail
      go_loopg [3, 4, 5, 8] 2 (fun kq v3 v4 v5 v8 w' => ∃ (j : Nat), j ≤ 2 ∧ kq + j = 2 ∧ v3 = .int .i64 (match j with | 0 => -1 | 1 => -1 | _ => 1) ∧ v8 = .int .i64 (j : Int) ∧ Aside0 (Hp w0 w' L))
      case atStart => exact ⟨0, by decide, rfl, rfl, rfl, HP⟩
      clear HP
      obtain ⟨j, hj, hk, rfl, rfl, HP⟩ := hrel
      match j, hj, hk with
      | 0, _, hk =>
        have HK := Aside0.mk hk
        clear hk
        have hx := (HG.out _ HP.out).1.1
        go_wp2_with fail
        clear hx
        refine held_named (S := (fun w' => w'.cell? ⟨g0, 0, none⟩ = some (.int .i64 n0) ∧ w'.cell? ⟨g1, 0, none⟩ = some (.int .i64 n1) ∧ w'.cell? ⟨bA, oA, none⟩ = some (.pointer none))) (by kernel_rfl) (fun wd0 hwd0 => ?_)
        have HPn := Aside0.mk (HP.out.drewN 1)
        rw [← World.drew_is_drewN, hwd0] at HPn
        clear HP hwd0
        have HP := HPn
        clear HPn
        refine ⟨by (try dsimp only); exact ⟨(HG.out _ HP.out).2.1, (HG.out _ HP.out).2.2, (HG.out _ HP.out).1.1⟩, fun hHeld => ?_⟩
        refine wpAnyH_take (i := 0) (oi := ({ dst := (some 13), op := (Op.move (Operand.tmp 5)), type := 88, pos := "super.go:89", after := #[], guard := none } : Oper)) (v := ?_) rfl (by kernel_rfl) (by kernel_rfl) (by kernel_rfl) (fun _ _ _ h => h) (Or.inl ⟨by rfl, ?_⟩) hHeld ?_
        rotate_left
        · intro w_ hSw; (try dsimp only at hSw); go_simp; try (with_reducible rfl)
        try simp only [Act.put, List.setIfInBounds_toArray, List.set_cons_zero, List.set_cons_succ]
        refine wpAnyH_take (i := 1) (oi := ({ dst := (some 14), op := (Op.binOp BinOp.neq 88 (Operand.tmp 13) (Operand.const (Value.pointer none)) 88), type := 4, pos := "super.go:89", after := #[{ on := 0, ground := Ground.data }], guard := none } : Oper)) (v := ?_) rfl (by kernel_rfl) (by kernel_rfl) (by kernel_rfl) (fun _ _ _ h => h) (Or.inl ⟨by rfl, ?_⟩) hHeld ?_
        rotate_left
        · intro w_ hSw; (try dsimp only at hSw); go_simp; try (with_reducible rfl)
        try simp only [Act.put, List.setIfInBounds_toArray, List.set_cons_zero, List.set_cons_succ]
        refine wpAnyH_take (i := 2) (oi := ({ dst := (some 15), op := (Op.move (Operand.tmp 14)), type := 4, pos := "super.go:89", after := #[{ on := 1, ground := Ground.data }], guard := none } : Oper)) (v := ?_) rfl (by kernel_rfl) (by kernel_rfl) (by kernel_rfl) (fun _ _ _ h => h) (Or.inl ⟨by rfl, ?_⟩) hHeld ?_
        rotate_left
        · intro w_ hSw; (try dsimp only at hSw); go_simp; try (with_reducible rfl)
        try simp only [Act.put, List.setIfInBounds_toArray, List.set_cons_zero, List.set_cons_succ]
        refine wpAnyH_take (i := 3) (oi := ({ dst := (some 16), op := (Op.move (Operand.tmp 3)), type := 3, pos := "super.go:89", after := #[{ on := 2, ground := Ground.guard }], guard := (some (2, true)) } : Oper)) (v := _) rfl (by kernel_rfl) (by kernel_rfl) (by kernel_rfl) (fun _ _ _ h => h) (Or.inr ⟨by rfl, rfl⟩) hHeld ?_
        try simp only [Act.put, List.setIfInBounds_toArray, List.set_cons_zero, List.set_cons_succ]
        refine wpAnyH_take (i := 4) (oi := ({ dst := (some 17), op := (Op.binOp BinOp.lss 3 (Operand.tmp 16) (Operand.const (Value.int IntKind.i64 0)) 3), type := 4, pos := "super.go:89", after := #[{ on := 3, ground := Ground.data }, { on := 2, ground := Ground.guard }], guard := (some (2, true)) } : Oper)) (v := _) rfl (by kernel_rfl) (by kernel_rfl) (by kernel_rfl) (fun _ _ _ h => h) (Or.inr ⟨by rfl, rfl⟩) hHeld ?_
        try simp only [Act.put, List.setIfInBounds_toArray, List.set_cons_zero, List.set_cons_succ]
        refine wpAnyH_take (i := 5) (oi := ({ dst := (some 18), op := (Op.move (Operand.tmp 17)), type := 4, pos := "super.go:89", after := #[{ on := 4, ground := Ground.data }, { on := 2, ground := Ground.chain }, { on := 2, ground := Ground.guard }], guard := (some (2, true)) } : Oper)) (v := _) rfl (by kernel_rfl) (by kernel_rfl) (by kernel_rfl) (fun _ _ _ h => h) (Or.inr ⟨by rfl, rfl⟩) hHeld ?_
        try simp only [Act.put, List.setIfInBounds_toArray, List.set_cons_zero, List.set_cons_succ]
        refine wpAnyH_take (i := 6) (oi := ({ dst := (some 19), op := (Op.move (Operand.tmp 5)), type := 88, pos := "super.go:89", after := #[{ on := 5, ground := Ground.guard }], guard := (some (5, false)) } : Oper)) (v := _) rfl (by kernel_rfl) (by kernel_rfl) (by kernel_rfl) (fun _ _ _ h => h) (Or.inr ⟨by rfl, rfl⟩) hHeld ?_
        try simp only [Act.put, List.setIfInBounds_toArray, List.set_cons_zero, List.set_cons_succ]
        refine wpAnyH_take (i := 7) (oi := ({ dst := (some 20), op := (Op.nilCheck (Operand.tmp 19)), type := 0, pos := "super.go:89", after := #[{ on := 6, ground := Ground.data }, { on := 5, ground := Ground.guard }], guard := (some (5, false)) } : Oper)) (v := _) rfl (by kernel_rfl) (by kernel_rfl) (by kernel_rfl) (fun _ _ _ h => h) (Or.inr ⟨by rfl, rfl⟩) hHeld ?_
        try simp only [Act.put, List.setIfInBounds_toArray, List.set_cons_zero, List.set_cons_succ]
        refine wpAnyH_take (i := 8) (oi := ({ dst := (some 21), op := (Op.fieldAddr 25 (Operand.tmp 20) 0), type := 0, pos := "super.go:89", after := #[{ on := 7, ground := Ground.data }, { on := 5, ground := Ground.guard }], guard := (some (5, false)) } : Oper)) (v := _) rfl (by kernel_rfl) (by kernel_rfl) (by kernel_rfl) (fun _ _ _ h => h) (Or.inr ⟨by rfl, rfl⟩) hHeld ?_
        try simp only [Act.put, List.setIfInBounds_toArray, List.set_cons_zero, List.set_cons_succ]
        refine wpAnyH_take (i := 9) (oi := ({ dst := (some 22), op := (Op.load 3 (Operand.tmp 21)), type := 3, pos := "super.go:89", after := #[{ on := 8, ground := Ground.data }, { on := 5, ground := Ground.guard }], guard := (some (5, false)) } : Oper)) (v := _) rfl (by kernel_rfl) (by kernel_rfl) (by kernel_rfl) (fun _ _ _ h => h) (Or.inr ⟨by rfl, rfl⟩) hHeld ?_
        try simp only [Act.put, List.setIfInBounds_toArray, List.set_cons_zero, List.set_cons_succ]
        refine wpAnyH_take (i := 10) (oi := ({ dst := (some 23), op := (Op.move (Operand.tmp 0)), type := 84, pos := "super.go:89", after := #[{ on := 5, ground := Ground.guard }], guard := (some (5, false)) } : Oper)) (v := _) rfl (by kernel_rfl) (by kernel_rfl) (by kernel_rfl) (fun _ _ _ h => h) (Or.inr ⟨by rfl, rfl⟩) hHeld ?_
        try simp only [Act.put, List.setIfInBounds_toArray, List.set_cons_zero, List.set_cons_succ]
        refine wpAnyH_take (i := 11) (oi := ({ dst := (some 24), op := (Op.move (Operand.tmp 3)), type := 3, pos := "super.go:89", after := #[{ on := 5, ground := Ground.guard }], guard := (some (5, false)) } : Oper)) (v := _) rfl (by kernel_rfl) (by kernel_rfl) (by kernel_rfl) (fun _ _ _ h => h) (Or.inr ⟨by rfl, rfl⟩) hHeld ?_
        try simp only [Act.put, List.setIfInBounds_toArray, List.set_cons_zero, List.set_cons_succ]
        refine wpAnyH_take (i := 12) (oi := ({ dst := (some 25), op := (Op.indexAddr 84 (Operand.tmp 23) (Operand.tmp 24)), type := 0, pos := "super.go:89", after := #[{ on := 10, ground := Ground.data }, { on := 11, ground := Ground.data }, { on := 5, ground := Ground.guard }], guard := (some (5, false)) } : Oper)) (v := _) rfl (by kernel_rfl) (by kernel_rfl) (by kernel_rfl) (fun _ _ _ h => h) (Or.inr ⟨by rfl, rfl⟩) hHeld ?_
        try simp only [Act.put, List.setIfInBounds_toArray, List.set_cons_zero, List.set_cons_succ]
        refine wpAnyH_take (i := 13) (oi := ({ dst := (some 26), op := (Op.load 88 (Operand.tmp 25)), type := 88, pos := "super.go:89", after := #[{ on := 12, ground := Ground.data }, { on := 5, ground := Ground.guard }], guard := (some (5, false)) } : Oper)) (v := _) rfl (by kernel_rfl) (by kernel_rfl) (by kernel_rfl) (fun _ _ _ h => h) (Or.inr ⟨by rfl, rfl⟩) hHeld ?_
        try simp only [Act.put, List.setIfInBounds_toArray, List.set_cons_zero, List.set_cons_succ]
        refine wpAnyH_take (i := 14) (oi := ({ dst := (some 27), op := (Op.nilCheck (Operand.tmp 26)), type := 0, pos := "super.go:89", after := #[{ on := 13, ground := Ground.data }, { on := 5, ground := Ground.guard }], guard := (some (5, false)) } : Oper)) (v := _) rfl (by kernel_rfl) (by kernel_rfl) (by kernel_rfl) (fun _ _ _ h => h) (Or.inr ⟨by rfl, rfl⟩) hHeld ?_
        try simp only [Act.put, List.setIfInBounds_toArray, List.set_cons_zero, List.set_cons_succ]
        refine wpAnyH_take (i := 15) (oi := ({ dst := (some 28), op := (Op.fieldAddr 25 (Operand.tmp 27) 0), type := 0, pos := "super.go:89", after := #[{ on := 14, ground := Ground.data }, { on := 5, ground := Ground.guard }], guard := (some (5, false)) } : Oper)) (v := _) rfl (by kernel_rfl) (by kernel_rfl) (by kernel_rfl) (fun _ _ _ h => h) (Or.inr ⟨by rfl, rfl⟩) hHeld ?_
        try simp only [Act.put, List.setIfInBounds_toArray, List.set_cons_zero, List.set_cons_succ]
        refine wpAnyH_take (i := 16) (oi := ({ dst := (some 29), op := (Op.load 3 (Operand.tmp 28)), type := 3, pos := "super.go:89", after := #[{ on := 15, ground := Ground.data }, { on := 5, ground := Ground.guard }], guard := (some (5, false)) } : Oper)) (v := _) rfl (by kernel_rfl) (by kernel_rfl) (by kernel_rfl) (fun _ _ _ h => h) (Or.inr ⟨by rfl, rfl⟩) hHeld ?_
        try simp only [Act.put, List.setIfInBounds_toArray, List.set_cons_zero, List.set_cons_succ]
        refine wpAnyH_take (i := 17) (oi := ({ dst := (some 30), op := (Op.binOp BinOp.gtr 3 (Operand.tmp 22) (Operand.tmp 29) 3), type := 4, pos := "super.go:89", after := #[{ on := 9, ground := Ground.data }, { on := 16, ground := Ground.data }, { on := 5, ground := Ground.guard }], guard := (some (5, false)) } : Oper)) (v := _) rfl (by kernel_rfl) (by kernel_rfl) (by kernel_rfl) (fun _ _ _ h => h) (Or.inr ⟨by rfl, rfl⟩) hHeld ?_
        try simp only [Act.put, List.setIfInBounds_toArray, List.set_cons_zero, List.set_cons_succ]
        refine wpAnyH_take (i := 18) (oi := ({ dst := (some 31), op := (Op.pick (Operand.tmp 18) (Operand.const (Value.bool true)) (Operand.tmp 30)), type := 4, pos := "super.go:89", after := #[{ on := 5, ground := Ground.data }, { on := 17, ground := Ground.data }, { on := 2, ground := Ground.guard }], guard := (some (2, true)) } : Oper)) (v := _) rfl (by kernel_rfl) (by kernel_rfl) (by kernel_rfl) (fun _ _ _ h => h) (Or.inr ⟨by rfl, rfl⟩) hHeld ?_
        try simp only [Act.put, List.setIfInBounds_toArray, List.set_cons_zero, List.set_cons_succ]
        refine wpAnyH_take (i := 19) (oi := ({ dst := (some 32), op := (Op.pick (Operand.tmp 15) (Operand.tmp 31) (Operand.const (Value.bool false))), type := 4, pos := "super.go:89", after := #[{ on := 2, ground := Ground.data }, { on := 18, ground := Ground.data }], guard := none } : Oper)) (v := ?_) rfl (by kernel_rfl) (by kernel_rfl) (by kernel_rfl) (fun _ _ _ h => h) (Or.inl ⟨by rfl, ?_⟩) hHeld ?_
        rotate_left
        · intro w_ hSw; (try dsimp only at hSw); go_simp; try (with_reducible rfl)
        try simp only [Act.put, List.setIfInBounds_toArray, List.set_cons_zero, List.set_cons_succ]
        refine wpAnyH_done (by kernel_rfl) ?_ _
        clear hHeld
        go_wp2_with fail
        go_roundg (gk - 1)
        case measure => have := HK.out; omega
        case rel => exact ⟨1, by decide, by have := HK.out; omega, rfl, rfl, HP⟩
      | 1, _, hk =>
        have HK := Aside0.mk hk
        clear hk
        have hx := (HG.out _ HP.out).1.2
        go_wp2_with fail
        clear hx
        refine held_named (S := (fun w' => w'.cell? ⟨g0, 0, none⟩ = some (.int .i64 n0) ∧ w'.cell? ⟨g1, 0, none⟩ = some (.int .i64 n1) ∧ w'.cell? ⟨bA, oA, none⟩ = some (.pointer none))) (by kernel_rfl) (fun wd0 hwd0 => ?_)
        have HPn := Aside0.mk (HP.out.drewN 1)
        rw [← World.drew_is_drewN, hwd0] at HPn
        clear HP hwd0
        have HP := HPn
        clear HPn
        refine ⟨by (try dsimp only); exact ⟨(HG.out _ HP.out).2.1, (HG.out _ HP.out).2.2, (HG.out _ HP.out).1.1⟩, fun hHeld => ?_⟩
        refine wpAnyH_take (i := 0) (oi := ({ dst := (some 13), op := (Op.move (Operand.tmp 5)), type := 88, pos := "super.go:89", after := #[], guard := none } : Oper)) (v := ?_) rfl (by kernel_rfl) (by kernel_rfl) (by kernel_rfl) (fun _ _ _ h => h) (Or.inl ⟨by rfl, ?_⟩) hHeld ?_
        rotate_left
        · intro w_ hSw; (try dsimp only at hSw); go_simp; try (with_reducible rfl)
        try simp only [Act.put, List.setIfInBounds_toArray, List.set_cons_zero, List.set_cons_succ]
        refine wpAnyH_take (i := 1) (oi := ({ dst := (some 14), op := (Op.binOp BinOp.neq 88 (Operand.tmp 13) (Operand.const (Value.pointer none)) 88), type := 4, pos := "super.go:89", after := #[{ on := 0, ground := Ground.data }], guard := none } : Oper)) (v := ?_) rfl (by kernel_rfl) (by kernel_rfl) (by kernel_rfl) (fun _ _ _ h => h) (Or.inl ⟨by rfl, ?_⟩) hHeld ?_
        rotate_left
        · intro w_ hSw; (try dsimp only at hSw); go_simp; try (with_reducible rfl)
        try simp only [Act.put, List.setIfInBounds_toArray, List.set_cons_zero, List.set_cons_succ]
        refine wpAnyH_take (i := 2) (oi := ({ dst := (some 15), op := (Op.move (Operand.tmp 14)), type := 4, pos := "super.go:89", after := #[{ on := 1, ground := Ground.data }], guard := none } : Oper)) (v := ?_) rfl (by kernel_rfl) (by kernel_rfl) (by kernel_rfl) (fun _ _ _ h => h) (Or.inl ⟨by rfl, ?_⟩) hHeld ?_
        rotate_left
        · intro w_ hSw; (try dsimp only at hSw); go_simp; try (with_reducible rfl)
        try simp only [Act.put, List.setIfInBounds_toArray, List.set_cons_zero, List.set_cons_succ]
        refine wpAnyH_take (i := 3) (oi := ({ dst := (some 16), op := (Op.move (Operand.tmp 3)), type := 3, pos := "super.go:89", after := #[{ on := 2, ground := Ground.guard }], guard := (some (2, true)) } : Oper)) (v := ?_) rfl (by kernel_rfl) (by kernel_rfl) (by kernel_rfl) (fun _ _ _ h => h) (Or.inl ⟨by rfl, ?_⟩) hHeld ?_
        rotate_left
        · intro w_ hSw; (try dsimp only at hSw); go_simp; try (with_reducible rfl)
        try simp only [Act.put, List.setIfInBounds_toArray, List.set_cons_zero, List.set_cons_succ]
        refine wpAnyH_take (i := 4) (oi := ({ dst := (some 17), op := (Op.binOp BinOp.lss 3 (Operand.tmp 16) (Operand.const (Value.int IntKind.i64 0)) 3), type := 4, pos := "super.go:89", after := #[{ on := 3, ground := Ground.data }, { on := 2, ground := Ground.guard }], guard := (some (2, true)) } : Oper)) (v := ?_) rfl (by kernel_rfl) (by kernel_rfl) (by kernel_rfl) (fun _ _ _ h => h) (Or.inl ⟨by rfl, ?_⟩) hHeld ?_
        rotate_left
        · intro w_ hSw; (try dsimp only at hSw); go_simp; try (with_reducible rfl)
        try simp only [Act.put, List.setIfInBounds_toArray, List.set_cons_zero, List.set_cons_succ]
        refine wpAnyH_take (i := 5) (oi := ({ dst := (some 18), op := (Op.move (Operand.tmp 17)), type := 4, pos := "super.go:89", after := #[{ on := 4, ground := Ground.data }, { on := 2, ground := Ground.chain }, { on := 2, ground := Ground.guard }], guard := (some (2, true)) } : Oper)) (v := ?_) rfl (by kernel_rfl) (by kernel_rfl) (by kernel_rfl) (fun _ _ _ h => h) (Or.inl ⟨by rfl, ?_⟩) hHeld ?_
        rotate_left
        · intro w_ hSw; (try dsimp only at hSw); go_simp; try (with_reducible rfl)
        try simp only [Act.put, List.setIfInBounds_toArray, List.set_cons_zero, List.set_cons_succ]
        refine wpAnyH_take (i := 6) (oi := ({ dst := (some 19), op := (Op.move (Operand.tmp 5)), type := 88, pos := "super.go:89", after := #[{ on := 5, ground := Ground.guard }], guard := (some (5, false)) } : Oper)) (v := _) rfl (by kernel_rfl) (by kernel_rfl) (by kernel_rfl) (fun _ _ _ h => h) (Or.inr ⟨by rfl, rfl⟩) hHeld ?_
        try simp only [Act.put, List.setIfInBounds_toArray, List.set_cons_zero, List.set_cons_succ]
        refine wpAnyH_take (i := 7) (oi := ({ dst := (some 20), op := (Op.nilCheck (Operand.tmp 19)), type := 0, pos := "super.go:89", after := #[{ on := 6, ground := Ground.data }, { on := 5, ground := Ground.guard }], guard := (some (5, false)) } : Oper)) (v := _) rfl (by kernel_rfl) (by kernel_rfl) (by kernel_rfl) (fun _ _ _ h => h) (Or.inr ⟨by rfl, rfl⟩) hHeld ?_
        try simp only [Act.put, List.setIfInBounds_toArray, List.set_cons_zero, List.set_cons_succ]
        refine wpAnyH_take (i := 8) (oi := ({ dst := (some 21), op := (Op.fieldAddr 25 (Operand.tmp 20) 0), type := 0, pos := "super.go:89", after := #[{ on := 7, ground := Ground.data }, { on := 5, ground := Ground.guard }], guard := (some (5, false)) } : Oper)) (v := _) rfl (by kernel_rfl) (by kernel_rfl) (by kernel_rfl) (fun _ _ _ h => h) (Or.inr ⟨by rfl, rfl⟩) hHeld ?_
        try simp only [Act.put, List.setIfInBounds_toArray, List.set_cons_zero, List.set_cons_succ]
        refine wpAnyH_take (i := 9) (oi := ({ dst := (some 22), op := (Op.load 3 (Operand.tmp 21)), type := 3, pos := "super.go:89", after := #[{ on := 8, ground := Ground.data }, { on := 5, ground := Ground.guard }], guard := (some (5, false)) } : Oper)) (v := _) rfl (by kernel_rfl) (by kernel_rfl) (by kernel_rfl) (fun _ _ _ h => h) (Or.inr ⟨by rfl, rfl⟩) hHeld ?_
        try simp only [Act.put, List.setIfInBounds_toArray, List.set_cons_zero, List.set_cons_succ]
        refine wpAnyH_take (i := 10) (oi := ({ dst := (some 23), op := (Op.move (Operand.tmp 0)), type := 84, pos := "super.go:89", after := #[{ on := 5, ground := Ground.guard }], guard := (some (5, false)) } : Oper)) (v := _) rfl (by kernel_rfl) (by kernel_rfl) (by kernel_rfl) (fun _ _ _ h => h) (Or.inr ⟨by rfl, rfl⟩) hHeld ?_
        try simp only [Act.put, List.setIfInBounds_toArray, List.set_cons_zero, List.set_cons_succ]
        refine wpAnyH_take (i := 11) (oi := ({ dst := (some 24), op := (Op.move (Operand.tmp 3)), type := 3, pos := "super.go:89", after := #[{ on := 5, ground := Ground.guard }], guard := (some (5, false)) } : Oper)) (v := _) rfl (by kernel_rfl) (by kernel_rfl) (by kernel_rfl) (fun _ _ _ h => h) (Or.inr ⟨by rfl, rfl⟩) hHeld ?_
        try simp only [Act.put, List.setIfInBounds_toArray, List.set_cons_zero, List.set_cons_succ]
        refine wpAnyH_take (i := 12) (oi := ({ dst := (some 25), op := (Op.indexAddr 84 (Operand.tmp 23) (Operand.tmp 24)), type := 0, pos := "super.go:89", after := #[{ on := 10, ground := Ground.data }, { on := 11, ground := Ground.data }, { on := 5, ground := Ground.guard }], guard := (some (5, false)) } : Oper)) (v := _) rfl (by kernel_rfl) (by kernel_rfl) (by kernel_rfl) (fun _ _ _ h => h) (Or.inr ⟨by rfl, rfl⟩) hHeld ?_
        try simp only [Act.put, List.setIfInBounds_toArray, List.set_cons_zero, List.set_cons_succ]
        refine wpAnyH_take (i := 13) (oi := ({ dst := (some 26), op := (Op.load 88 (Operand.tmp 25)), type := 88, pos := "super.go:89", after := #[{ on := 12, ground := Ground.data }, { on := 5, ground := Ground.guard }], guard := (some (5, false)) } : Oper)) (v := _) rfl (by kernel_rfl) (by kernel_rfl) (by kernel_rfl) (fun _ _ _ h => h) (Or.inr ⟨by rfl, rfl⟩) hHeld ?_
        try simp only [Act.put, List.setIfInBounds_toArray, List.set_cons_zero, List.set_cons_succ]
        refine wpAnyH_take (i := 14) (oi := ({ dst := (some 27), op := (Op.nilCheck (Operand.tmp 26)), type := 0, pos := "super.go:89", after := #[{ on := 13, ground := Ground.data }, { on := 5, ground := Ground.guard }], guard := (some (5, false)) } : Oper)) (v := _) rfl (by kernel_rfl) (by kernel_rfl) (by kernel_rfl) (fun _ _ _ h => h) (Or.inr ⟨by rfl, rfl⟩) hHeld ?_
        try simp only [Act.put, List.setIfInBounds_toArray, List.set_cons_zero, List.set_cons_succ]
        refine wpAnyH_take (i := 15) (oi := ({ dst := (some 28), op := (Op.fieldAddr 25 (Operand.tmp 27) 0), type := 0, pos := "super.go:89", after := #[{ on := 14, ground := Ground.data }, { on := 5, ground := Ground.guard }], guard := (some (5, false)) } : Oper)) (v := _) rfl (by kernel_rfl) (by kernel_rfl) (by kernel_rfl) (fun _ _ _ h => h) (Or.inr ⟨by rfl, rfl⟩) hHeld ?_
        try simp only [Act.put, List.setIfInBounds_toArray, List.set_cons_zero, List.set_cons_succ]
        refine wpAnyH_take (i := 16) (oi := ({ dst := (some 29), op := (Op.load 3 (Operand.tmp 28)), type := 3, pos := "super.go:89", after := #[{ on := 15, ground := Ground.data }, { on := 5, ground := Ground.guard }], guard := (some (5, false)) } : Oper)) (v := _) rfl (by kernel_rfl) (by kernel_rfl) (by kernel_rfl) (fun _ _ _ h => h) (Or.inr ⟨by rfl, rfl⟩) hHeld ?_
        try simp only [Act.put, List.setIfInBounds_toArray, List.set_cons_zero, List.set_cons_succ]
        refine wpAnyH_take (i := 17) (oi := ({ dst := (some 30), op := (Op.binOp BinOp.gtr 3 (Operand.tmp 22) (Operand.tmp 29) 3), type := 4, pos := "super.go:89", after := #[{ on := 9, ground := Ground.data }, { on := 16, ground := Ground.data }, { on := 5, ground := Ground.guard }], guard := (some (5, false)) } : Oper)) (v := _) rfl (by kernel_rfl) (by kernel_rfl) (by kernel_rfl) (fun _ _ _ h => h) (Or.inr ⟨by rfl, rfl⟩) hHeld ?_
        try simp only [Act.put, List.setIfInBounds_toArray, List.set_cons_zero, List.set_cons_succ]
        refine wpAnyH_take (i := 18) (oi := ({ dst := (some 31), op := (Op.pick (Operand.tmp 18) (Operand.const (Value.bool true)) (Operand.tmp 30)), type := 4, pos := "super.go:89", after := #[{ on := 5, ground := Ground.data }, { on := 17, ground := Ground.data }, { on := 2, ground := Ground.guard }], guard := (some (2, true)) } : Oper)) (v := ?_) rfl (by kernel_rfl) (by kernel_rfl) (by kernel_rfl) (fun _ _ _ h => h) (Or.inl ⟨by rfl, ?_⟩) hHeld ?_
        rotate_left
        · intro w_ hSw; (try dsimp only at hSw); go_simp; try (with_reducible rfl)
        try simp only [Act.put, List.setIfInBounds_toArray, List.set_cons_zero, List.set_cons_succ]
        refine wpAnyH_take (i := 19) (oi := ({ dst := (some 32), op := (Op.pick (Operand.tmp 15) (Operand.tmp 31) (Operand.const (Value.bool false))), type := 4, pos := "super.go:89", after := #[{ on := 2, ground := Ground.data }, { on := 18, ground := Ground.data }], guard := none } : Oper)) (v := ?_) rfl (by kernel_rfl) (by kernel_rfl) (by kernel_rfl) (fun _ _ _ h => h) (Or.inl ⟨by rfl, ?_⟩) hHeld ?_
        rotate_left
        · intro w_ hSw; (try dsimp only at hSw); go_simp; try (with_reducible rfl)
        try simp only [Act.put, List.setIfInBounds_toArray, List.set_cons_zero, List.set_cons_succ]
        refine wpAnyH_done (by kernel_rfl) ?_ _
        clear hHeld
        go_wp2_with fail
        go_roundg (gk - 1)
        case measure => have := HK.out; omega
        case rel => exact ⟨2, by decide, by have := HK.out; omega, rfl, rfl, HP⟩
      | 2, _, hk =>
        clear hk
        go_wp2_with fail
        go_ret
        exact ⟨by rw [HBV.out]; rfl, HP.out⟩
  · cases e1
    · have HBV := Aside0.mk (show B = 0 from by rw [HB.out]; rfl)
      clear HB
      have HG := Aside0.mk (fun (W : World) (h : Hp w0 W L) => (show (W.cell? ⟨bA, oA, none⟩ = some (.pointer (some ⟨g0, 0, none⟩)) ∧ W.cell? ⟨bA, oA + 1, none⟩ = some (.pointer none)) ∧ W.cell? ⟨g0, 0, none⟩ = some (.int .i64 n0) ∧ W.cell? ⟨g1, 0, none⟩ = some (.int .i64 n1) from HF.out W h))
      clear HF
      go_enter Try.func47, Try.ntmps47
      go_wp2_with fail
      go_loopg [3, 4, 5, 8] 2 (fun kq v3 v4 v5 v8 w' => ∃ (j : Nat), j ≤ 2 ∧ kq + j = 2 ∧ v3 = .int .i64 (match j with | 0 => -1 | 1 => 0 | _ => 0) ∧ v8 = .int .i64 (j : Int) ∧ Aside0 (Hp w0 w' L))
      case atStart => exact ⟨0, by decide, rfl, rfl, rfl, HP⟩
      clear HP
      obtain ⟨j, hj, hk, rfl, rfl, HP⟩ := hrel
      match j, hj, hk with
      | 0, _, hk =>
        have HK := Aside0.mk hk
        clear hk
        have hx := (HG.out _ HP.out).1.1
        go_wp2_with fail
        clear hx
        refine held_named (S := (fun w' => w'.cell? ⟨g0, 0, none⟩ = some (.int .i64 n0) ∧ w'.cell? ⟨g1, 0, none⟩ = some (.int .i64 n1) ∧ w'.cell? ⟨bA, oA, none⟩ = some (.pointer (some ⟨g0, 0, none⟩)))) (by kernel_rfl) (fun wd0 hwd0 => ?_)
        have HPn := Aside0.mk (HP.out.drewN 1)
        rw [← World.drew_is_drewN, hwd0] at HPn
        clear HP hwd0
        have HP := HPn
        clear HPn
        refine ⟨by (try dsimp only); exact ⟨(HG.out _ HP.out).2.1, (HG.out _ HP.out).2.2, (HG.out _ HP.out).1.1⟩, fun hHeld => ?_⟩
        refine wpAnyH_take (i := 0) (oi := ({ dst := (some 13), op := (Op.move (Operand.tmp 5)), type := 88, pos := "super.go:89", after := #[], guard := none } : Oper)) (v := ?_) rfl (by kernel_rfl) (by kernel_rfl) (by kernel_rfl) (fun _ _ _ h => h) (Or.inl ⟨by rfl, ?_⟩) hHeld ?_
        rotate_left
        · intro w_ hSw; (try dsimp only at hSw); go_simp; try (with_reducible rfl)
        try simp only [Act.put, List.setIfInBounds_toArray, List.set_cons_zero, List.set_cons_succ]
        refine wpAnyH_take (i := 1) (oi := ({ dst := (some 14), op := (Op.binOp BinOp.neq 88 (Operand.tmp 13) (Operand.const (Value.pointer none)) 88), type := 4, pos := "super.go:89", after := #[{ on := 0, ground := Ground.data }], guard := none } : Oper)) (v := ?_) rfl (by kernel_rfl) (by kernel_rfl) (by kernel_rfl) (fun _ _ _ h => h) (Or.inl ⟨by rfl, ?_⟩) hHeld ?_
        rotate_left
        · intro w_ hSw; (try dsimp only at hSw); go_simp; try (with_reducible rfl)
        try simp only [Act.put, List.setIfInBounds_toArray, List.set_cons_zero, List.set_cons_succ]
        refine wpAnyH_take (i := 2) (oi := ({ dst := (some 15), op := (Op.move (Operand.tmp 14)), type := 4, pos := "super.go:89", after := #[{ on := 1, ground := Ground.data }], guard := none } : Oper)) (v := ?_) rfl (by kernel_rfl) (by kernel_rfl) (by kernel_rfl) (fun _ _ _ h => h) (Or.inl ⟨by rfl, ?_⟩) hHeld ?_
        rotate_left
        · intro w_ hSw; (try dsimp only at hSw); go_simp; try (with_reducible rfl)
        try simp only [Act.put, List.setIfInBounds_toArray, List.set_cons_zero, List.set_cons_succ]
        refine wpAnyH_take (i := 3) (oi := ({ dst := (some 16), op := (Op.move (Operand.tmp 3)), type := 3, pos := "super.go:89", after := #[{ on := 2, ground := Ground.guard }], guard := (some (2, true)) } : Oper)) (v := ?_) rfl (by kernel_rfl) (by kernel_rfl) (by kernel_rfl) (fun _ _ _ h => h) (Or.inl ⟨by rfl, ?_⟩) hHeld ?_
        rotate_left
        · intro w_ hSw; (try dsimp only at hSw); go_simp; try (with_reducible rfl)
        try simp only [Act.put, List.setIfInBounds_toArray, List.set_cons_zero, List.set_cons_succ]
        refine wpAnyH_take (i := 4) (oi := ({ dst := (some 17), op := (Op.binOp BinOp.lss 3 (Operand.tmp 16) (Operand.const (Value.int IntKind.i64 0)) 3), type := 4, pos := "super.go:89", after := #[{ on := 3, ground := Ground.data }, { on := 2, ground := Ground.guard }], guard := (some (2, true)) } : Oper)) (v := ?_) rfl (by kernel_rfl) (by kernel_rfl) (by kernel_rfl) (fun _ _ _ h => h) (Or.inl ⟨by rfl, ?_⟩) hHeld ?_
        rotate_left
        · intro w_ hSw; (try dsimp only at hSw); go_simp; try (with_reducible rfl)
        try simp only [Act.put, List.setIfInBounds_toArray, List.set_cons_zero, List.set_cons_succ]
        refine wpAnyH_take (i := 5) (oi := ({ dst := (some 18), op := (Op.move (Operand.tmp 17)), type := 4, pos := "super.go:89", after := #[{ on := 4, ground := Ground.data }, { on := 2, ground := Ground.chain }, { on := 2, ground := Ground.guard }], guard := (some (2, true)) } : Oper)) (v := ?_) rfl (by kernel_rfl) (by kernel_rfl) (by kernel_rfl) (fun _ _ _ h => h) (Or.inl ⟨by rfl, ?_⟩) hHeld ?_
        rotate_left
        · intro w_ hSw; (try dsimp only at hSw); go_simp; try (with_reducible rfl)
        try simp only [Act.put, List.setIfInBounds_toArray, List.set_cons_zero, List.set_cons_succ]
        refine wpAnyH_take (i := 6) (oi := ({ dst := (some 19), op := (Op.move (Operand.tmp 5)), type := 88, pos := "super.go:89", after := #[{ on := 5, ground := Ground.guard }], guard := (some (5, false)) } : Oper)) (v := _) rfl (by kernel_rfl) (by kernel_rfl) (by kernel_rfl) (fun _ _ _ h => h) (Or.inr ⟨by rfl, rfl⟩) hHeld ?_
        try simp only [Act.put, List.setIfInBounds_toArray, List.set_cons_zero, List.set_cons_succ]
        refine wpAnyH_take (i := 7) (oi := ({ dst := (some 20), op := (Op.nilCheck (Operand.tmp 19)), type := 0, pos := "super.go:89", after := #[{ on := 6, ground := Ground.data }, { on := 5, ground := Ground.guard }], guard := (some (5, false)) } : Oper)) (v := _) rfl (by kernel_rfl) (by kernel_rfl) (by kernel_rfl) (fun _ _ _ h => h) (Or.inr ⟨by rfl, rfl⟩) hHeld ?_
        try simp only [Act.put, List.setIfInBounds_toArray, List.set_cons_zero, List.set_cons_succ]
        refine wpAnyH_take (i := 8) (oi := ({ dst := (some 21), op := (Op.fieldAddr 25 (Operand.tmp 20) 0), type := 0, pos := "super.go:89", after := #[{ on := 7, ground := Ground.data }, { on := 5, ground := Ground.guard }], guard := (some (5, false)) } : Oper)) (v := _) rfl (by kernel_rfl) (by kernel_rfl) (by kernel_rfl) (fun _ _ _ h => h) (Or.inr ⟨by rfl, rfl⟩) hHeld ?_
        try simp only [Act.put, List.setIfInBounds_toArray, List.set_cons_zero, List.set_cons_succ]
        refine wpAnyH_take (i := 9) (oi := ({ dst := (some 22), op := (Op.load 3 (Operand.tmp 21)), type := 3, pos := "super.go:89", after := #[{ on := 8, ground := Ground.data }, { on := 5, ground := Ground.guard }], guard := (some (5, false)) } : Oper)) (v := _) rfl (by kernel_rfl) (by kernel_rfl) (by kernel_rfl) (fun _ _ _ h => h) (Or.inr ⟨by rfl, rfl⟩) hHeld ?_
        try simp only [Act.put, List.setIfInBounds_toArray, List.set_cons_zero, List.set_cons_succ]
        refine wpAnyH_take (i := 10) (oi := ({ dst := (some 23), op := (Op.move (Operand.tmp 0)), type := 84, pos := "super.go:89", after := #[{ on := 5, ground := Ground.guard }], guard := (some (5, false)) } : Oper)) (v := _) rfl (by kernel_rfl) (by kernel_rfl) (by kernel_rfl) (fun _ _ _ h => h) (Or.inr ⟨by rfl, rfl⟩) hHeld ?_
        try simp only [Act.put, List.setIfInBounds_toArray, List.set_cons_zero, List.set_cons_succ]
        refine wpAnyH_take (i := 11) (oi := ({ dst := (some 24), op := (Op.move (Operand.tmp 3)), type := 3, pos := "super.go:89", after := #[{ on := 5, ground := Ground.guard }], guard := (some (5, false)) } : Oper)) (v := _) rfl (by kernel_rfl) (by kernel_rfl) (by kernel_rfl) (fun _ _ _ h => h) (Or.inr ⟨by rfl, rfl⟩) hHeld ?_
        try simp only [Act.put, List.setIfInBounds_toArray, List.set_cons_zero, List.set_cons_succ]
        refine wpAnyH_take (i := 12) (oi := ({ dst := (some 25), op := (Op.indexAddr 84 (Operand.tmp 23) (Operand.tmp 24)), type := 0, pos := "super.go:89", after := #[{ on := 10, ground := Ground.data }, { on := 11, ground := Ground.data }, { on := 5, ground := Ground.guard }], guard := (some (5, false)) } : Oper)) (v := _) rfl (by kernel_rfl) (by kernel_rfl) (by kernel_rfl) (fun _ _ _ h => h) (Or.inr ⟨by rfl, rfl⟩) hHeld ?_
        try simp only [Act.put, List.setIfInBounds_toArray, List.set_cons_zero, List.set_cons_succ]
        refine wpAnyH_take (i := 13) (oi := ({ dst := (some 26), op := (Op.load 88 (Operand.tmp 25)), type := 88, pos := "super.go:89", after := #[{ on := 12, ground := Ground.data }, { on := 5, ground := Ground.guard }], guard := (some (5, false)) } : Oper)) (v := _) rfl (by kernel_rfl) (by kernel_rfl) (by kernel_rfl) (fun _ _ _ h => h) (Or.inr ⟨by rfl, rfl⟩) hHeld ?_
        try simp only [Act.put, List.setIfInBounds_toArray, List.set_cons_zero, List.set_cons_succ]
        refine wpAnyH_take (i := 14) (oi := ({ dst := (some 27), op := (Op.nilCheck (Operand.tmp 26)), type := 0, pos := "super.go:89", after := #[{ on := 13, ground := Ground.data }, { on := 5, ground := Ground.guard }], guard := (some (5, false)) } : Oper)) (v := _) rfl (by kernel_rfl) (by kernel_rfl) (by kernel_rfl) (fun _ _ _ h => h) (Or.inr ⟨by rfl, rfl⟩) hHeld ?_
        try simp only [Act.put, List.setIfInBounds_toArray, List.set_cons_zero, List.set_cons_succ]
        refine wpAnyH_take (i := 15) (oi := ({ dst := (some 28), op := (Op.fieldAddr 25 (Operand.tmp 27) 0), type := 0, pos := "super.go:89", after := #[{ on := 14, ground := Ground.data }, { on := 5, ground := Ground.guard }], guard := (some (5, false)) } : Oper)) (v := _) rfl (by kernel_rfl) (by kernel_rfl) (by kernel_rfl) (fun _ _ _ h => h) (Or.inr ⟨by rfl, rfl⟩) hHeld ?_
        try simp only [Act.put, List.setIfInBounds_toArray, List.set_cons_zero, List.set_cons_succ]
        refine wpAnyH_take (i := 16) (oi := ({ dst := (some 29), op := (Op.load 3 (Operand.tmp 28)), type := 3, pos := "super.go:89", after := #[{ on := 15, ground := Ground.data }, { on := 5, ground := Ground.guard }], guard := (some (5, false)) } : Oper)) (v := _) rfl (by kernel_rfl) (by kernel_rfl) (by kernel_rfl) (fun _ _ _ h => h) (Or.inr ⟨by rfl, rfl⟩) hHeld ?_
        try simp only [Act.put, List.setIfInBounds_toArray, List.set_cons_zero, List.set_cons_succ]
        refine wpAnyH_take (i := 17) (oi := ({ dst := (some 30), op := (Op.binOp BinOp.gtr 3 (Operand.tmp 22) (Operand.tmp 29) 3), type := 4, pos := "super.go:89", after := #[{ on := 9, ground := Ground.data }, { on := 16, ground := Ground.data }, { on := 5, ground := Ground.guard }], guard := (some (5, false)) } : Oper)) (v := _) rfl (by kernel_rfl) (by kernel_rfl) (by kernel_rfl) (fun _ _ _ h => h) (Or.inr ⟨by rfl, rfl⟩) hHeld ?_
        try simp only [Act.put, List.setIfInBounds_toArray, List.set_cons_zero, List.set_cons_succ]
        refine wpAnyH_take (i := 18) (oi := ({ dst := (some 31), op := (Op.pick (Operand.tmp 18) (Operand.const (Value.bool true)) (Operand.tmp 30)), type := 4, pos := "super.go:89", after := #[{ on := 5, ground := Ground.data }, { on := 17, ground := Ground.data }, { on := 2, ground := Ground.guard }], guard := (some (2, true)) } : Oper)) (v := ?_) rfl (by kernel_rfl) (by kernel_rfl) (by kernel_rfl) (fun _ _ _ h => h) (Or.inl ⟨by rfl, ?_⟩) hHeld ?_
        rotate_left
        · intro w_ hSw; (try dsimp only at hSw); go_simp; try (with_reducible rfl)
        try simp only [Act.put, List.setIfInBounds_toArray, List.set_cons_zero, List.set_cons_succ]
        refine wpAnyH_take (i := 19) (oi := ({ dst := (some 32), op := (Op.pick (Operand.tmp 15) (Operand.tmp 31) (Operand.const (Value.bool false))), type := 4, pos := "super.go:89", after := #[{ on := 2, ground := Ground.data }, { on := 18, ground := Ground.data }], guard := none } : Oper)) (v := ?_) rfl (by kernel_rfl) (by kernel_rfl) (by kernel_rfl) (fun _ _ _ h => h) (Or.inl ⟨by rfl, ?_⟩) hHeld ?_
        rotate_left
        · intro w_ hSw; (try dsimp only at hSw); go_simp; try (with_reducible rfl)
        try simp only [Act.put, List.setIfInBounds_toArray, List.set_cons_zero, List.set_cons_succ]
        refine wpAnyH_done (by kernel_rfl) ?_ _
        clear hHeld
        go_wp2_with fail
        go_roundg (gk - 1)
        case measure => have := HK.out; omega
        case rel => exact ⟨1, by decide, by have := HK.out; omega, rfl, rfl, HP⟩
      | 1, _, hk =>
        have HK := Aside0.mk hk
        clear hk
        have hx := (HG.out _ HP.out).1.2
        go_wp2_with fail
        clear hx
        refine held_named (S := (fun w' => w'.cell? ⟨g0, 0, none⟩ = some (.int .i64 n0) ∧ w'.cell? ⟨g1, 0, none⟩ = some (.int .i64 n1) ∧ w'.cell? ⟨bA, oA, none⟩ = some (.pointer (some ⟨g0, 0, none⟩)))) (by kernel_rfl) (fun wd0 hwd0 => ?_)
        have HPn := Aside0.mk (HP.out.drewN 1)
        rw [← World.drew_is_drewN, hwd0] at HPn
        clear HP hwd0
        have HP := HPn
        clear HPn
        refine ⟨by (try dsimp only); exact ⟨(HG.out _ HP.out).2.1, (HG.out _ HP.out).2.2, (HG.out _ HP.out).1.1⟩, fun hHeld => ?_⟩
        refine wpAnyH_take (i := 0) (oi := ({ dst := (some 13), op := (Op.move (Operand.tmp 5)), type := 88, pos := "super.go:89", after := #[], guard := none } : Oper)) (v := ?_) rfl (by kernel_rfl) (by kernel_rfl) (by kernel_rfl) (fun _ _ _ h => h) (Or.inl ⟨by rfl, ?_⟩) hHeld ?_
        rotate_left
        · intro w_ hSw; (try dsimp only at hSw); go_simp; try (with_reducible rfl)
        try simp only [Act.put, List.setIfInBounds_toArray, List.set_cons_zero, List.set_cons_succ]
        refine wpAnyH_take (i := 1) (oi := ({ dst := (some 14), op := (Op.binOp BinOp.neq 88 (Operand.tmp 13) (Operand.const (Value.pointer none)) 88), type := 4, pos := "super.go:89", after := #[{ on := 0, ground := Ground.data }], guard := none } : Oper)) (v := ?_) rfl (by kernel_rfl) (by kernel_rfl) (by kernel_rfl) (fun _ _ _ h => h) (Or.inl ⟨by rfl, ?_⟩) hHeld ?_
        rotate_left
        · intro w_ hSw; (try dsimp only at hSw); go_simp; try (with_reducible rfl)
        try simp only [Act.put, List.setIfInBounds_toArray, List.set_cons_zero, List.set_cons_succ]
        refine wpAnyH_take (i := 2) (oi := ({ dst := (some 15), op := (Op.move (Operand.tmp 14)), type := 4, pos := "super.go:89", after := #[{ on := 1, ground := Ground.data }], guard := none } : Oper)) (v := ?_) rfl (by kernel_rfl) (by kernel_rfl) (by kernel_rfl) (fun _ _ _ h => h) (Or.inl ⟨by rfl, ?_⟩) hHeld ?_
        rotate_left
        · intro w_ hSw; (try dsimp only at hSw); go_simp; try (with_reducible rfl)
        try simp only [Act.put, List.setIfInBounds_toArray, List.set_cons_zero, List.set_cons_succ]
        refine wpAnyH_take (i := 3) (oi := ({ dst := (some 16), op := (Op.move (Operand.tmp 3)), type := 3, pos := "super.go:89", after := #[{ on := 2, ground := Ground.guard }], guard := (some (2, true)) } : Oper)) (v := _) rfl (by kernel_rfl) (by kernel_rfl) (by kernel_rfl) (fun _ _ _ h => h) (Or.inr ⟨by rfl, rfl⟩) hHeld ?_
        try simp only [Act.put, List.setIfInBounds_toArray, List.set_cons_zero, List.set_cons_succ]
        refine wpAnyH_take (i := 4) (oi := ({ dst := (some 17), op := (Op.binOp BinOp.lss 3 (Operand.tmp 16) (Operand.const (Value.int IntKind.i64 0)) 3), type := 4, pos := "super.go:89", after := #[{ on := 3, ground := Ground.data }, { on := 2, ground := Ground.guard }], guard := (some (2, true)) } : Oper)) (v := _) rfl (by kernel_rfl) (by kernel_rfl) (by kernel_rfl) (fun _ _ _ h => h) (Or.inr ⟨by rfl, rfl⟩) hHeld ?_
        try simp only [Act.put, List.setIfInBounds_toArray, List.set_cons_zero, List.set_cons_succ]
        refine wpAnyH_take (i := 5) (oi := ({ dst := (some 18), op := (Op.move (Operand.tmp 17)), type := 4, pos := "super.go:89", after := #[{ on := 4, ground := Ground.data }, { on := 2, ground := Ground.chain }, { on := 2, ground := Ground.guard }], guard := (some (2, true)) } : Oper)) (v := _) rfl (by kernel_rfl) (by kernel_rfl) (by kernel_rfl) (fun _ _ _ h => h) (Or.inr ⟨by rfl, rfl⟩) hHeld ?_
        try simp only [Act.put, List.setIfInBounds_toArray, List.set_cons_zero, List.set_cons_succ]
        refine wpAnyH_take (i := 6) (oi := ({ dst := (some 19), op := (Op.move (Operand.tmp 5)), type := 88, pos := "super.go:89", after := #[{ on := 5, ground := Ground.guard }], guard := (some (5, false)) } : Oper)) (v := _) rfl (by kernel_rfl) (by kernel_rfl) (by kernel_rfl) (fun _ _ _ h => h) (Or.inr ⟨by rfl, rfl⟩) hHeld ?_
        try simp only [Act.put, List.setIfInBounds_toArray, List.set_cons_zero, List.set_cons_succ]
        refine wpAnyH_take (i := 7) (oi := ({ dst := (some 20), op := (Op.nilCheck (Operand.tmp 19)), type := 0, pos := "super.go:89", after := #[{ on := 6, ground := Ground.data }, { on := 5, ground := Ground.guard }], guard := (some (5, false)) } : Oper)) (v := _) rfl (by kernel_rfl) (by kernel_rfl) (by kernel_rfl) (fun _ _ _ h => h) (Or.inr ⟨by rfl, rfl⟩) hHeld ?_
        try simp only [Act.put, List.setIfInBounds_toArray, List.set_cons_zero, List.set_cons_succ]
        refine wpAnyH_take (i := 8) (oi := ({ dst := (some 21), op := (Op.fieldAddr 25 (Operand.tmp 20) 0), type := 0, pos := "super.go:89", after := #[{ on := 7, ground := Ground.data }, { on := 5, ground := Ground.guard }], guard := (some (5, false)) } : Oper)) (v := _) rfl (by kernel_rfl) (by kernel_rfl) (by kernel_rfl) (fun _ _ _ h => h) (Or.inr ⟨by rfl, rfl⟩) hHeld ?_
        try simp only [Act.put, List.setIfInBounds_toArray, List.set_cons_zero, List.set_cons_succ]
        refine wpAnyH_take (i := 9) (oi := ({ dst := (some 22), op := (Op.load 3 (Operand.tmp 21)), type := 3, pos := "super.go:89", after := #[{ on := 8, ground := Ground.data }, { on := 5, ground := Ground.guard }], guard := (some (5, false)) } : Oper)) (v := _) rfl (by kernel_rfl) (by kernel_rfl) (by kernel_rfl) (fun _ _ _ h => h) (Or.inr ⟨by rfl, rfl⟩) hHeld ?_
        try simp only [Act.put, List.setIfInBounds_toArray, List.set_cons_zero, List.set_cons_succ]
        refine wpAnyH_take (i := 10) (oi := ({ dst := (some 23), op := (Op.move (Operand.tmp 0)), type := 84, pos := "super.go:89", after := #[{ on := 5, ground := Ground.guard }], guard := (some (5, false)) } : Oper)) (v := _) rfl (by kernel_rfl) (by kernel_rfl) (by kernel_rfl) (fun _ _ _ h => h) (Or.inr ⟨by rfl, rfl⟩) hHeld ?_
        try simp only [Act.put, List.setIfInBounds_toArray, List.set_cons_zero, List.set_cons_succ]
        refine wpAnyH_take (i := 11) (oi := ({ dst := (some 24), op := (Op.move (Operand.tmp 3)), type := 3, pos := "super.go:89", after := #[{ on := 5, ground := Ground.guard }], guard := (some (5, false)) } : Oper)) (v := _) rfl (by kernel_rfl) (by kernel_rfl) (by kernel_rfl) (fun _ _ _ h => h) (Or.inr ⟨by rfl, rfl⟩) hHeld ?_
        try simp only [Act.put, List.setIfInBounds_toArray, List.set_cons_zero, List.set_cons_succ]
        refine wpAnyH_take (i := 12) (oi := ({ dst := (some 25), op := (Op.indexAddr 84 (Operand.tmp 23) (Operand.tmp 24)), type := 0, pos := "super.go:89", after := #[{ on := 10, ground := Ground.data }, { on := 11, ground := Ground.data }, { on := 5, ground := Ground.guard }], guard := (some (5, false)) } : Oper)) (v := _) rfl (by kernel_rfl) (by kernel_rfl) (by kernel_rfl) (fun _ _ _ h => h) (Or.inr ⟨by rfl, rfl⟩) hHeld ?_
        try simp only [Act.put, List.setIfInBounds_toArray, List.set_cons_zero, List.set_cons_succ]
        refine wpAnyH_take (i := 13) (oi := ({ dst := (some 26), op := (Op.load 88 (Operand.tmp 25)), type := 88, pos := "super.go:89", after := #[{ on := 12, ground := Ground.data }, { on := 5, ground := Ground.guard }], guard := (some (5, false)) } : Oper)) (v := _) rfl (by kernel_rfl) (by kernel_rfl) (by kernel_rfl) (fun _ _ _ h => h) (Or.inr ⟨by rfl, rfl⟩) hHeld ?_
        try simp only [Act.put, List.setIfInBounds_toArray, List.set_cons_zero, List.set_cons_succ]
        refine wpAnyH_take (i := 14) (oi := ({ dst := (some 27), op := (Op.nilCheck (Operand.tmp 26)), type := 0, pos := "super.go:89", after := #[{ on := 13, ground := Ground.data }, { on := 5, ground := Ground.guard }], guard := (some (5, false)) } : Oper)) (v := _) rfl (by kernel_rfl) (by kernel_rfl) (by kernel_rfl) (fun _ _ _ h => h) (Or.inr ⟨by rfl, rfl⟩) hHeld ?_
        try simp only [Act.put, List.setIfInBounds_toArray, List.set_cons_zero, List.set_cons_succ]
        refine wpAnyH_take (i := 15) (oi := ({ dst := (some 28), op := (Op.fieldAddr 25 (Operand.tmp 27) 0), type := 0, pos := "super.go:89", after := #[{ on := 14, ground := Ground.data }, { on := 5, ground := Ground.guard }], guard := (some (5, false)) } : Oper)) (v := _) rfl (by kernel_rfl) (by kernel_rfl) (by kernel_rfl) (fun _ _ _ h => h) (Or.inr ⟨by rfl, rfl⟩) hHeld ?_
        try simp only [Act.put, List.setIfInBounds_toArray, List.set_cons_zero, List.set_cons_succ]
        refine wpAnyH_take (i := 16) (oi := ({ dst := (some 29), op := (Op.load 3 (Operand.tmp 28)), type := 3, pos := "super.go:89", after := #[{ on := 15, ground := Ground.data }, { on := 5, ground := Ground.guard }], guard := (some (5, false)) } : Oper)) (v := _) rfl (by kernel_rfl) (by kernel_rfl) (by kernel_rfl) (fun _ _ _ h => h) (Or.inr ⟨by rfl, rfl⟩) hHeld ?_
        try simp only [Act.put, List.setIfInBounds_toArray, List.set_cons_zero, List.set_cons_succ]
        refine wpAnyH_take (i := 17) (oi := ({ dst := (some 30), op := (Op.binOp BinOp.gtr 3 (Operand.tmp 22) (Operand.tmp 29) 3), type := 4, pos := "super.go:89", after := #[{ on := 9, ground := Ground.data }, { on := 16, ground := Ground.data }, { on := 5, ground := Ground.guard }], guard := (some (5, false)) } : Oper)) (v := _) rfl (by kernel_rfl) (by kernel_rfl) (by kernel_rfl) (fun _ _ _ h => h) (Or.inr ⟨by rfl, rfl⟩) hHeld ?_
        try simp only [Act.put, List.setIfInBounds_toArray, List.set_cons_zero, List.set_cons_succ]
        refine wpAnyH_take (i := 18) (oi := ({ dst := (some 31), op := (Op.pick (Operand.tmp 18) (Operand.const (Value.bool true)) (Operand.tmp 30)), type := 4, pos := "super.go:89", after := #[{ on := 5, ground := Ground.data }, { on := 17, ground := Ground.data }, { on := 2, ground := Ground.guard }], guard := (some (2, true)) } : Oper)) (v := _) rfl (by kernel_rfl) (by kernel_rfl) (by kernel_rfl) (fun _ _ _ h => h) (Or.inr ⟨by rfl, rfl⟩) hHeld ?_
        try simp only [Act.put, List.setIfInBounds_toArray, List.set_cons_zero, List.set_cons_succ]
        refine wpAnyH_take (i := 19) (oi := ({ dst := (some 32), op := (Op.pick (Operand.tmp 15) (Operand.tmp 31) (Operand.const (Value.bool false))), type := 4, pos := "super.go:89", after := #[{ on := 2, ground := Ground.data }, { on := 18, ground := Ground.data }], guard := none } : Oper)) (v := ?_) rfl (by kernel_rfl) (by kernel_rfl) (by kernel_rfl) (fun _ _ _ h => h) (Or.inl ⟨by rfl, ?_⟩) hHeld ?_
        rotate_left
        · intro w_ hSw; (try dsimp only at hSw); go_simp; try (with_reducible rfl)
        try simp only [Act.put, List.setIfInBounds_toArray, List.set_cons_zero, List.set_cons_succ]
        refine wpAnyH_done (by kernel_rfl) ?_ _
        clear hHeld
        go_wp2_with fail
        go_roundg (gk - 1)
        case measure => have := HK.out; omega
        case rel => exact ⟨2, by decide, by have := HK.out; omega, rfl, rfl, HP⟩
      | 2, _, hk =>
        clear hk
        go_wp2_with fail
        go_ret
        exact ⟨by rw [HBV.out]; rfl, HP.out⟩
    · by_cases hlt : n0 < n1
      · have HL := Aside0.mk (show decide (n0 < n1) = true from decide_eq_true hlt)
        clear hlt
        have HBV := Aside0.mk (show B = 1 from by rw [HB.out, if_pos rfl, if_pos rfl, if_pos (of_decide_eq_true HL.out)])
        clear HB
        have HG := Aside0.mk (fun (W : World) (h : Hp w0 W L) => (show (W.cell? ⟨bA, oA, none⟩ = some (.pointer (some ⟨g0, 0, none⟩)) ∧ W.cell? ⟨bA, oA + 1, none⟩ = some (.pointer (some ⟨g1, 0, none⟩))) ∧ W.cell? ⟨g0, 0, none⟩ = some (.int .i64 n0) ∧ W.cell? ⟨g1, 0, none⟩ = some (.int .i64 n1) from HF.out W h))
        clear HF
        go_enter Try.func47, Try.ntmps47
        go_wp2_with fail
        go_loopg [3, 4, 5, 8] 2 (fun kq v3 v4 v5 v8 w' => ∃ (j : Nat), j ≤ 2 ∧ kq + j = 2 ∧ v3 = .int .i64 (match j with | 0 => -1 | 1 => 0 | _ => 1) ∧ v8 = .int .i64 (j : Int) ∧ Aside0 (Hp w0 w' L))
        case atStart => exact ⟨0, by decide, rfl, rfl, rfl, HP⟩
        clear HP
        obtain ⟨j, hj, hk, rfl, rfl, HP⟩ := hrel
        match j, hj, hk with
        | 0, _, hk =>
          have HK := Aside0.mk hk
          clear hk
          have hx := (HG.out _ HP.out).1.1
          have hcmp := HL.out
          go_wp2_with fail
          clear hx
          refine held_named (S := (fun w' => w'.cell? ⟨g0, 0, none⟩ = some (.int .i64 n0) ∧ w'.cell? ⟨g1, 0, none⟩ = some (.int .i64 n1) ∧ w'.cell? ⟨bA, oA, none⟩ = some (.pointer (some ⟨g0, 0, none⟩)))) (by kernel_rfl) (fun wd0 hwd0 => ?_)
          have HPn := Aside0.mk (HP.out.drewN 1)
          rw [← World.drew_is_drewN, hwd0] at HPn
          clear HP hwd0
          have HP := HPn
          clear HPn
          refine ⟨by (try dsimp only); exact ⟨(HG.out _ HP.out).2.1, (HG.out _ HP.out).2.2, (HG.out _ HP.out).1.1⟩, fun hHeld => ?_⟩
          refine wpAnyH_take (i := 0) (oi := ({ dst := (some 13), op := (Op.move (Operand.tmp 5)), type := 88, pos := "super.go:89", after := #[], guard := none } : Oper)) (v := ?_) rfl (by kernel_rfl) (by kernel_rfl) (by kernel_rfl) (fun _ _ _ h => h) (Or.inl ⟨by rfl, ?_⟩) hHeld ?_
          rotate_left
          · intro w_ hSw; (try dsimp only at hSw); go_simp; try (with_reducible rfl)
          try simp only [Act.put, List.setIfInBounds_toArray, List.set_cons_zero, List.set_cons_succ]
          refine wpAnyH_take (i := 1) (oi := ({ dst := (some 14), op := (Op.binOp BinOp.neq 88 (Operand.tmp 13) (Operand.const (Value.pointer none)) 88), type := 4, pos := "super.go:89", after := #[{ on := 0, ground := Ground.data }], guard := none } : Oper)) (v := ?_) rfl (by kernel_rfl) (by kernel_rfl) (by kernel_rfl) (fun _ _ _ h => h) (Or.inl ⟨by rfl, ?_⟩) hHeld ?_
          rotate_left
          · intro w_ hSw; (try dsimp only at hSw); go_simp; try (with_reducible rfl)
          try simp only [Act.put, List.setIfInBounds_toArray, List.set_cons_zero, List.set_cons_succ]
          refine wpAnyH_take (i := 2) (oi := ({ dst := (some 15), op := (Op.move (Operand.tmp 14)), type := 4, pos := "super.go:89", after := #[{ on := 1, ground := Ground.data }], guard := none } : Oper)) (v := ?_) rfl (by kernel_rfl) (by kernel_rfl) (by kernel_rfl) (fun _ _ _ h => h) (Or.inl ⟨by rfl, ?_⟩) hHeld ?_
          rotate_left
          · intro w_ hSw; (try dsimp only at hSw); go_simp; try (with_reducible rfl)
          try simp only [Act.put, List.setIfInBounds_toArray, List.set_cons_zero, List.set_cons_succ]
          refine wpAnyH_take (i := 3) (oi := ({ dst := (some 16), op := (Op.move (Operand.tmp 3)), type := 3, pos := "super.go:89", after := #[{ on := 2, ground := Ground.guard }], guard := (some (2, true)) } : Oper)) (v := ?_) rfl (by kernel_rfl) (by kernel_rfl) (by kernel_rfl) (fun _ _ _ h => h) (Or.inl ⟨by rfl, ?_⟩) hHeld ?_
          rotate_left
          · intro w_ hSw; (try dsimp only at hSw); go_simp; try (with_reducible rfl)
          try simp only [Act.put, List.setIfInBounds_toArray, List.set_cons_zero, List.set_cons_succ]
          refine wpAnyH_take (i := 4) (oi := ({ dst := (some 17), op := (Op.binOp BinOp.lss 3 (Operand.tmp 16) (Operand.const (Value.int IntKind.i64 0)) 3), type := 4, pos := "super.go:89", after := #[{ on := 3, ground := Ground.data }, { on := 2, ground := Ground.guard }], guard := (some (2, true)) } : Oper)) (v := ?_) rfl (by kernel_rfl) (by kernel_rfl) (by kernel_rfl) (fun _ _ _ h => h) (Or.inl ⟨by rfl, ?_⟩) hHeld ?_
          rotate_left
          · intro w_ hSw; (try dsimp only at hSw); go_simp; try (with_reducible rfl)
          try simp only [Act.put, List.setIfInBounds_toArray, List.set_cons_zero, List.set_cons_succ]
          refine wpAnyH_take (i := 5) (oi := ({ dst := (some 18), op := (Op.move (Operand.tmp 17)), type := 4, pos := "super.go:89", after := #[{ on := 4, ground := Ground.data }, { on := 2, ground := Ground.chain }, { on := 2, ground := Ground.guard }], guard := (some (2, true)) } : Oper)) (v := ?_) rfl (by kernel_rfl) (by kernel_rfl) (by kernel_rfl) (fun _ _ _ h => h) (Or.inl ⟨by rfl, ?_⟩) hHeld ?_
          rotate_left
          · intro w_ hSw; (try dsimp only at hSw); go_simp; try (with_reducible rfl)
          try simp only [Act.put, List.setIfInBounds_toArray, List.set_cons_zero, List.set_cons_succ]
          refine wpAnyH_take (i := 6) (oi := ({ dst := (some 19), op := (Op.move (Operand.tmp 5)), type := 88, pos := "super.go:89", after := #[{ on := 5, ground := Ground.guard }], guard := (some (5, false)) } : Oper)) (v := _) rfl (by kernel_rfl) (by kernel_rfl) (by kernel_rfl) (fun _ _ _ h => h) (Or.inr ⟨by rfl, rfl⟩) hHeld ?_
          try simp only [Act.put, List.setIfInBounds_toArray, List.set_cons_zero, List.set_cons_succ]
          refine wpAnyH_take (i := 7) (oi := ({ dst := (some 20), op := (Op.nilCheck (Operand.tmp 19)), type := 0, pos := "super.go:89", after := #[{ on := 6, ground := Ground.data }, { on := 5, ground := Ground.guard }], guard := (some (5, false)) } : Oper)) (v := _) rfl (by kernel_rfl) (by kernel_rfl) (by kernel_rfl) (fun _ _ _ h => h) (Or.inr ⟨by rfl, rfl⟩) hHeld ?_
          try simp only [Act.put, List.setIfInBounds_toArray, List.set_cons_zero, List.set_cons_succ]
          refine wpAnyH_take (i := 8) (oi := ({ dst := (some 21), op := (Op.fieldAddr 25 (Operand.tmp 20) 0), type := 0, pos := "super.go:89", after := #[{ on := 7, ground := Ground.data }, { on := 5, ground := Ground.guard }], guard := (some (5, false)) } : Oper)) (v := _) rfl (by kernel_rfl) (by kernel_rfl) (by kernel_rfl) (fun _ _ _ h => h) (Or.inr ⟨by rfl, rfl⟩) hHeld ?_
          try simp only [Act.put, List.setIfInBounds_toArray, List.set_cons_zero, List.set_cons_succ]
          refine wpAnyH_take (i := 9) (oi := ({ dst := (some 22), op := (Op.load 3 (Operand.tmp 21)), type := 3, pos := "super.go:89", after := #[{ on := 8, ground := Ground.data }, { on := 5, ground := Ground.guard }], guard := (some (5, false)) } : Oper)) (v := _) rfl (by kernel_rfl) (by kernel_rfl) (by kernel_rfl) (fun _ _ _ h => h) (Or.inr ⟨by rfl, rfl⟩) hHeld ?_
          try simp only [Act.put, List.setIfInBounds_toArray, List.set_cons_zero, List.set_cons_succ]
          refine wpAnyH_take (i := 10) (oi := ({ dst := (some 23), op := (Op.move (Operand.tmp 0)), type := 84, pos := "super.go:89", after := #[{ on := 5, ground := Ground.guard }], guard := (some (5, false)) } : Oper)) (v := _) rfl (by kernel_rfl) (by kernel_rfl) (by kernel_rfl) (fun _ _ _ h => h) (Or.inr ⟨by rfl, rfl⟩) hHeld ?_
          try simp only [Act.put, List.setIfInBounds_toArray, List.set_cons_zero, List.set_cons_succ]
          refine wpAnyH_take (i := 11) (oi := ({ dst := (some 24), op := (Op.move (Operand.tmp 3)), type := 3, pos := "super.go:89", after := #[{ on := 5, ground := Ground.guard }], guard := (some (5, false)) } : Oper)) (v := _) rfl (by kernel_rfl) (by kernel_rfl) (by kernel_rfl) (fun _ _ _ h => h) (Or.inr ⟨by rfl, rfl⟩) hHeld ?_
          try simp only [Act.put, List.setIfInBounds_toArray, List.set_cons_zero, List.set_cons_succ]
          refine wpAnyH_take (i := 12) (oi := ({ dst := (some 25), op := (Op.indexAddr 84 (Operand.tmp 23) (Operand.tmp 24)), type := 0, pos := "super.go:89", after := #[{ on := 10, ground := Ground.data }, { on := 11, ground := Ground.data }, { on := 5, ground := Ground.guard }], guard := (some (5, false)) } : Oper)) (v := _) rfl (by kernel_rfl) (by kernel_rfl) (by kernel_rfl) (fun _ _ _ h => h) (Or.inr ⟨by rfl, rfl⟩) hHeld ?_
          try simp only [Act.put, List.setIfInBounds_toArray, List.set_cons_zero, List.set_cons_succ]
          refine wpAnyH_take (i := 13) (oi := ({ dst := (some 26), op := (Op.load 88 (Operand.tmp 25)), type := 88, pos := "super.go:89", after := #[{ on := 12, ground := Ground.data }, { on := 5, ground := Ground.guard }], guard := (some (5, false)) } : Oper)) (v := _) rfl (by kernel_rfl) (by kernel_rfl) (by kernel_rfl) (fun _ _ _ h => h) (Or.inr ⟨by rfl, rfl⟩) hHeld ?_
          try simp only [Act.put, List.setIfInBounds_toArray, List.set_cons_zero, List.set_cons_succ]
          refine wpAnyH_take (i := 14) (oi := ({ dst := (some 27), op := (Op.nilCheck (Operand.tmp 26)), type := 0, pos := "super.go:89", after := #[{ on := 13, ground := Ground.data }, { on := 5, ground := Ground.guard }], guard := (some (5, false)) } : Oper)) (v := _) rfl (by kernel_rfl) (by kernel_rfl) (by kernel_rfl) (fun _ _ _ h => h) (Or.inr ⟨by rfl, rfl⟩) hHeld ?_
          try simp only [Act.put, List.setIfInBounds_toArray, List.set_cons_zero, List.set_cons_succ]
          refine wpAnyH_take (i := 15) (oi := ({ dst := (some 28), op := (Op.fieldAddr 25 (Operand.tmp 27) 0), type := 0, pos := "super.go:89", after := #[{ on := 14, ground := Ground.data }, { on := 5, ground := Ground.guard }], guard := (some (5, false)) } : Oper)) (v := _) rfl (by kernel_rfl) (by kernel_rfl) (by kernel_rfl) (fun _ _ _ h => h) (Or.inr ⟨by rfl, rfl⟩) hHeld ?_
          try simp only [Act.put, List.setIfInBounds_toArray, List.set_cons_zero, List.set_cons_succ]
          refine wpAnyH_take (i := 16) (oi := ({ dst := (some 29), op := (Op.load 3 (Operand.tmp 28)), type := 3, pos := "super.go:89", after := #[{ on := 15, ground := Ground.data }, { on := 5, ground := Ground.guard }], guard := (some (5, false)) } : Oper)) (v := _) rfl (by kernel_rfl) (by kernel_rfl) (by kernel_rfl) (fun _ _ _ h => h) (Or.inr ⟨by rfl, rfl⟩) hHeld ?_
          try simp only [Act.put, List.setIfInBounds_toArray, List.set_cons_zero, List.set_cons_succ]
          refine wpAnyH_take (i := 17) (oi := ({ dst := (some 30), op := (Op.binOp BinOp.gtr 3 (Operand.tmp 22) (Operand.tmp 29) 3), type := 4, pos := "super.go:89", after := #[{ on := 9, ground := Ground.data }, { on := 16, ground := Ground.data }, { on := 5, ground := Ground.guard }], guard := (some (5, false)) } : Oper)) (v := _) rfl (by kernel_rfl) (by kernel_rfl) (by kernel_rfl) (fun _ _ _ h => h) (Or.inr ⟨by rfl, rfl⟩) hHeld ?_
          try simp only [Act.put, List.setIfInBounds_toArray, List.set_cons_zero, List.set_cons_succ]
          refine wpAnyH_take (i := 18) (oi := ({ dst := (some 31), op := (Op.pick (Operand.tmp 18) (Operand.const (Value.bool true)) (Operand.tmp 30)), type := 4, pos := "super.go:89", after := #[{ on := 5, ground := Ground.data }, { on := 17, ground := Ground.data }, { on := 2, ground := Ground.guard }], guard := (some (2, true)) } : Oper)) (v := ?_) rfl (by kernel_rfl) (by kernel_rfl) (by kernel_rfl) (fun _ _ _ h => h) (Or.inl ⟨by rfl, ?_⟩) hHeld ?_
          rotate_left
          · intro w_ hSw; (try dsimp only at hSw); go_simp; try (with_reducible rfl)
          try simp only [Act.put, List.setIfInBounds_toArray, List.set_cons_zero, List.set_cons_succ]
          refine wpAnyH_take (i := 19) (oi := ({ dst := (some 32), op := (Op.pick (Operand.tmp 15) (Operand.tmp 31) (Operand.const (Value.bool false))), type := 4, pos := "super.go:89", after := #[{ on := 2, ground := Ground.data }, { on := 18, ground := Ground.data }], guard := none } : Oper)) (v := ?_) rfl (by kernel_rfl) (by kernel_rfl) (by kernel_rfl) (fun _ _ _ h => h) (Or.inl ⟨by rfl, ?_⟩) hHeld ?_
          rotate_left
          · intro w_ hSw; (try dsimp only at hSw); go_simp; try (with_reducible rfl)
          try simp only [Act.put, List.setIfInBounds_toArray, List.set_cons_zero, List.set_cons_succ]
          refine wpAnyH_done (by kernel_rfl) ?_ _
          clear hHeld hcmp
          go_wp2_with fail
          go_roundg (gk - 1)
          case measure => have := HK.out; omega
          case rel => exact ⟨1, by decide, by have := HK.out; omega, rfl, rfl, HP⟩
        | 1, _, hk =>
          have HK := Aside0.mk hk
          clear hk
          have hx := (HG.out _ HP.out).1.2
          have hcmp := HL.out
          go_wp2_with fail
          clear hx
          refine held_named (S := (fun w' => w'.cell? ⟨g0, 0, none⟩ = some (.int .i64 n0) ∧ w'.cell? ⟨g1, 0, none⟩ = some (.int .i64 n1) ∧ w'.cell? ⟨bA, oA, none⟩ = some (.pointer (some ⟨g0, 0, none⟩)))) (by kernel_rfl) (fun wd0 hwd0 => ?_)
          have HPn := Aside0.mk (HP.out.drewN 1)
          rw [← World.drew_is_drewN, hwd0] at HPn
          clear HP hwd0
          have HP := HPn
          clear HPn
          refine ⟨by (try dsimp only); exact ⟨(HG.out _ HP.out).2.1, (HG.out _ HP.out).2.2, (HG.out _ HP.out).1.1⟩, fun hHeld => ?_⟩
          refine wpAnyH_take (i := 0) (oi := ({ dst := (some 13), op := (Op.move (Operand.tmp 5)), type := 88, pos := "super.go:89", after := #[], guard := none } : Oper)) (v := ?_) rfl (by kernel_rfl) (by kernel_rfl) (by kernel_rfl) (fun _ _ _ h => h) (Or.inl ⟨by rfl, ?_⟩) hHeld ?_
          rotate_left
          · intro w_ hSw; (try dsimp only at hSw); go_simp; try (with_reducible rfl)
          try simp only [Act.put, List.setIfInBounds_toArray, List.set_cons_zero, List.set_cons_succ]
          refine wpAnyH_take (i := 1) (oi := ({ dst := (some 14), op := (Op.binOp BinOp.neq 88 (Operand.tmp 13) (Operand.const (Value.pointer none)) 88), type := 4, pos := "super.go:89", after := #[{ on := 0, ground := Ground.data }], guard := none } : Oper)) (v := ?_) rfl (by kernel_rfl) (by kernel_rfl) (by kernel_rfl) (fun _ _ _ h => h) (Or.inl ⟨by rfl, ?_⟩) hHeld ?_
          rotate_left
          · intro w_ hSw; (try dsimp only at hSw); go_simp; try (with_reducible rfl)
          try simp only [Act.put, List.setIfInBounds_toArray, List.set_cons_zero, List.set_cons_succ]
          refine wpAnyH_take (i := 2) (oi := ({ dst := (some 15), op := (Op.move (Operand.tmp 14)), type := 4, pos := "super.go:89", after := #[{ on := 1, ground := Ground.data }], guard := none } : Oper)) (v := ?_) rfl (by kernel_rfl) (by kernel_rfl) (by kernel_rfl) (fun _ _ _ h => h) (Or.inl ⟨by rfl, ?_⟩) hHeld ?_
          rotate_left
          · intro w_ hSw; (try dsimp only at hSw); go_simp; try (with_reducible rfl)
          try simp only [Act.put, List.setIfInBounds_toArray, List.set_cons_zero, List.set_cons_succ]
          refine wpAnyH_take (i := 3) (oi := ({ dst := (some 16), op := (Op.move (Operand.tmp 3)), type := 3, pos := "super.go:89", after := #[{ on := 2, ground := Ground.guard }], guard := (some (2, true)) } : Oper)) (v := ?_) rfl (by kernel_rfl) (by kernel_rfl) (by kernel_rfl) (fun _ _ _ h => h) (Or.inl ⟨by rfl, ?_⟩) hHeld ?_
          rotate_left
          · intro w_ hSw; (try dsimp only at hSw); go_simp; try (with_reducible rfl)
          try simp only [Act.put, List.setIfInBounds_toArray, List.set_cons_zero, List.set_cons_succ]
          refine wpAnyH_take (i := 4) (oi := ({ dst := (some 17), op := (Op.binOp BinOp.lss 3 (Operand.tmp 16) (Operand.const (Value.int IntKind.i64 0)) 3), type := 4, pos := "super.go:89", after := #[{ on := 3, ground := Ground.data }, { on := 2, ground := Ground.guard }], guard := (some (2, true)) } : Oper)) (v := ?_) rfl (by kernel_rfl) (by kernel_rfl) (by kernel_rfl) (fun _ _ _ h => h) (Or.inl ⟨by rfl, ?_⟩) hHeld ?_
          rotate_left
          · intro w_ hSw; (try dsimp only at hSw); go_simp; try (with_reducible rfl)
          try simp only [Act.put, List.setIfInBounds_toArray, List.set_cons_zero, List.set_cons_succ]
          refine wpAnyH_take (i := 5) (oi := ({ dst := (some 18), op := (Op.move (Operand.tmp 17)), type := 4, pos := "super.go:89", after := #[{ on := 4, ground := Ground.data }, { on := 2, ground := Ground.chain }, { on := 2, ground := Ground.guard }], guard := (some (2, true)) } : Oper)) (v := ?_) rfl (by kernel_rfl) (by kernel_rfl) (by kernel_rfl) (fun _ _ _ h => h) (Or.inl ⟨by rfl, ?_⟩) hHeld ?_
          rotate_left
          · intro w_ hSw; (try dsimp only at hSw); go_simp; try (with_reducible rfl)
          try simp only [Act.put, List.setIfInBounds_toArray, List.set_cons_zero, List.set_cons_succ]
          refine wpAnyH_take (i := 6) (oi := ({ dst := (some 19), op := (Op.move (Operand.tmp 5)), type := 88, pos := "super.go:89", after := #[{ on := 5, ground := Ground.guard }], guard := (some (5, false)) } : Oper)) (v := ?_) rfl (by kernel_rfl) (by kernel_rfl) (by kernel_rfl) (fun _ _ _ h => h) (Or.inl ⟨by rfl, ?_⟩) hHeld ?_
          rotate_left
          · intro w_ hSw; (try dsimp only at hSw); go_simp; try (with_reducible rfl)
          try simp only [Act.put, List.setIfInBounds_toArray, List.set_cons_zero, List.set_cons_succ]
          refine wpAnyH_take (i := 7) (oi := ({ dst := (some 20), op := (Op.nilCheck (Operand.tmp 19)), type := 0, pos := "super.go:89", after := #[{ on := 6, ground := Ground.data }, { on := 5, ground := Ground.guard }], guard := (some (5, false)) } : Oper)) (v := ?_) rfl (by kernel_rfl) (by kernel_rfl) (by kernel_rfl) (fun _ _ _ h => h) (Or.inl ⟨by rfl, ?_⟩) hHeld ?_
          rotate_left
          · intro w_ hSw; (try dsimp only at hSw); go_simp; try (with_reducible rfl)
          try simp only [Act.put, List.setIfInBounds_toArray, List.set_cons_zero, List.set_cons_succ]
          refine wpAnyH_take (i := 8) (oi := ({ dst := (some 21), op := (Op.fieldAddr 25 (Operand.tmp 20) 0), type := 0, pos := "super.go:89", after := #[{ on := 7, ground := Ground.data }, { on := 5, ground := Ground.guard }], guard := (some (5, false)) } : Oper)) (v := ?_) rfl (by kernel_rfl) (by kernel_rfl) (by kernel_rfl) (fun _ _ _ h => h) (Or.inl ⟨by rfl, ?_⟩) hHeld ?_
          rotate_left
          · intro w_ hSw; (try dsimp only at hSw); go_simp; try (with_reducible rfl)
          try simp only [Act.put, List.setIfInBounds_toArray, List.set_cons_zero, List.set_cons_succ]
          refine wpAnyH_take (i := 9) (oi := ({ dst := (some 22), op := (Op.load 3 (Operand.tmp 21)), type := 3, pos := "super.go:89", after := #[{ on := 8, ground := Ground.data }, { on := 5, ground := Ground.guard }], guard := (some (5, false)) } : Oper)) (v := ?_) rfl (by kernel_rfl) (by kernel_rfl) (by kernel_rfl) (fun _ _ _ h => h) (Or.inl ⟨by rfl, ?_⟩) hHeld ?_
          rotate_left
          · intro w_ hSw; (try dsimp only at hSw); go_simp; try (with_reducible rfl)
          try simp only [Act.put, List.setIfInBounds_toArray, List.set_cons_zero, List.set_cons_succ]
          refine wpAnyH_take (i := 10) (oi := ({ dst := (some 23), op := (Op.move (Operand.tmp 0)), type := 84, pos := "super.go:89", after := #[{ on := 5, ground := Ground.guard }], guard := (some (5, false)) } : Oper)) (v := ?_) rfl (by kernel_rfl) (by kernel_rfl) (by kernel_rfl) (fun _ _ _ h => h) (Or.inl ⟨by rfl, ?_⟩) hHeld ?_
          rotate_left
          · intro w_ hSw; (try dsimp only at hSw); go_simp; try (with_reducible rfl)
          try simp only [Act.put, List.setIfInBounds_toArray, List.set_cons_zero, List.set_cons_succ]
          refine wpAnyH_take (i := 11) (oi := ({ dst := (some 24), op := (Op.move (Operand.tmp 3)), type := 3, pos := "super.go:89", after := #[{ on := 5, ground := Ground.guard }], guard := (some (5, false)) } : Oper)) (v := ?_) rfl (by kernel_rfl) (by kernel_rfl) (by kernel_rfl) (fun _ _ _ h => h) (Or.inl ⟨by rfl, ?_⟩) hHeld ?_
          rotate_left
          · intro w_ hSw; (try dsimp only at hSw); go_simp; try (with_reducible rfl)
          try simp only [Act.put, List.setIfInBounds_toArray, List.set_cons_zero, List.set_cons_succ]
          refine wpAnyH_take (i := 12) (oi := ({ dst := (some 25), op := (Op.indexAddr 84 (Operand.tmp 23) (Operand.tmp 24)), type := 0, pos := "super.go:89", after := #[{ on := 10, ground := Ground.data }, { on := 11, ground := Ground.data }, { on := 5, ground := Ground.guard }], guard := (some (5, false)) } : Oper)) (v := ?_) rfl (by kernel_rfl) (by kernel_rfl) (by kernel_rfl) (fun _ _ _ h => h) (Or.inl ⟨by rfl, ?_⟩) hHeld ?_
          rotate_left
          · intro w_ hSw; (try dsimp only at hSw); go_simp; try (with_reducible rfl)
          try simp only [Act.put, List.setIfInBounds_toArray, List.set_cons_zero, List.set_cons_succ]
          refine wpAnyH_take (i := 13) (oi := ({ dst := (some 26), op := (Op.load 88 (Operand.tmp 25)), type := 88, pos := "super.go:89", after := #[{ on := 12, ground := Ground.data }, { on := 5, ground := Ground.guard }], guard := (some (5, false)) } : Oper)) (v := ?_) rfl (by kernel_rfl) (by kernel_rfl) (by kernel_rfl) (fun _ _ _ h => h) (Or.inl ⟨by rfl, ?_⟩) hHeld ?_
          rotate_left
          · intro w_ hSw; (try dsimp only at hSw); go_simp; try (with_reducible rfl)
          try simp only [Act.put, List.setIfInBounds_toArray, List.set_cons_zero, List.set_cons_succ]
          refine wpAnyH_take (i := 14) (oi := ({ dst := (some 27), op := (Op.nilCheck (Operand.tmp 26)), type := 0, pos := "super.go:89", after := #[{ on := 13, ground := Ground.data }, { on := 5, ground := Ground.guard }], guard := (some (5, false)) } : Oper)) (v := ?_) rfl (by kernel_rfl) (by kernel_rfl) (by kernel_rfl) (fun _ _ _ h => h) (Or.inl ⟨by rfl, ?_⟩) hHeld ?_
          rotate_left
          · intro w_ hSw; (try dsimp only at hSw); go_simp; try (with_reducible rfl)
          try simp only [Act.put, List.setIfInBounds_toArray, List.set_cons_zero, List.set_cons_succ]
          refine wpAnyH_take (i := 15) (oi := ({ dst := (some 28), op := (Op.fieldAddr 25 (Operand.tmp 27) 0), type := 0, pos := "super.go:89", after := #[{ on := 14, ground := Ground.data }, { on := 5, ground := Ground.guard }], guard := (some (5, false)) } : Oper)) (v := ?_) rfl (by kernel_rfl) (by kernel_rfl) (by kernel_rfl) (fun _ _ _ h => h) (Or.inl ⟨by rfl, ?_⟩) hHeld ?_
          rotate_left
          · intro w_ hSw; (try dsimp only at hSw); go_simp; try (with_reducible rfl)
          try simp only [Act.put, List.setIfInBounds_toArray, List.set_cons_zero, List.set_cons_succ]
          refine wpAnyH_take (i := 16) (oi := ({ dst := (some 29), op := (Op.load 3 (Operand.tmp 28)), type := 3, pos := "super.go:89", after := #[{ on := 15, ground := Ground.data }, { on := 5, ground := Ground.guard }], guard := (some (5, false)) } : Oper)) (v := ?_) rfl (by kernel_rfl) (by kernel_rfl) (by kernel_rfl) (fun _ _ _ h => h) (Or.inl ⟨by rfl, ?_⟩) hHeld ?_
          rotate_left
          · intro w_ hSw; (try dsimp only at hSw); go_simp; try (with_reducible rfl)
          try simp only [Act.put, List.setIfInBounds_toArray, List.set_cons_zero, List.set_cons_succ]
          refine wpAnyH_take (i := 17) (oi := ({ dst := (some 30), op := (Op.binOp BinOp.gtr 3 (Operand.tmp 22) (Operand.tmp 29) 3), type := 4, pos := "super.go:89", after := #[{ on := 9, ground := Ground.data }, { on := 16, ground := Ground.data }, { on := 5, ground := Ground.guard }], guard := (some (5, false)) } : Oper)) (v := ?_) rfl (by kernel_rfl) (by kernel_rfl) (by kernel_rfl) (fun _ _ _ h => h) (Or.inl ⟨by rfl, ?_⟩) hHeld ?_
          rotate_left
          · intro w_ hSw; (try dsimp only at hSw); go_simp; try (with_reducible rfl)
          try simp only [Act.put, List.setIfInBounds_toArray, List.set_cons_zero, List.set_cons_succ]
          refine wpAnyH_take (i := 18) (oi := ({ dst := (some 31), op := (Op.pick (Operand.tmp 18) (Operand.const (Value.bool true)) (Operand.tmp 30)), type := 4, pos := "super.go:89", after := #[{ on := 5, ground := Ground.data }, { on := 17, ground := Ground.data }, { on := 2, ground := Ground.guard }], guard := (some (2, true)) } : Oper)) (v := ?_) rfl (by kernel_rfl) (by kernel_rfl) (by kernel_rfl) (fun _ _ _ h => h) (Or.inl ⟨by rfl, ?_⟩) hHeld ?_
          rotate_left
          · intro w_ hSw; (try dsimp only at hSw); go_simp; try (with_reducible rfl)
          try simp only [Act.put, List.setIfInBounds_toArray, List.set_cons_zero, List.set_cons_succ]
          refine wpAnyH_take (i := 19) (oi := ({ dst := (some 32), op := (Op.pick (Operand.tmp 15) (Operand.tmp 31) (Operand.const (Value.bool false))), type := 4, pos := "super.go:89", after := #[{ on := 2, ground := Ground.data }, { on := 18, ground := Ground.data }], guard := none } : Oper)) (v := ?_) rfl (by kernel_rfl) (by kernel_rfl) (by kernel_rfl) (fun _ _ _ h => h) (Or.inl ⟨by rfl, ?_⟩) hHeld ?_
          rotate_left
          · intro w_ hSw; (try dsimp only at hSw); go_simp; try (with_reducible rfl)
          try simp only [Act.put, List.setIfInBounds_toArray, List.set_cons_zero, List.set_cons_succ]
          refine wpAnyH_done (by kernel_rfl) ?_ _
          clear hHeld hcmp
          go_wp2_with fail
          go_roundg (gk - 1)
          case measure => have := HK.out; omega
          case rel => exact ⟨2, by decide, by have := HK.out; omega, rfl, rfl, HP⟩
        | 2, _, hk =>
          clear hk
          go_wp2_with fail
          go_ret
          exact ⟨by rw [HBV.out]; rfl, HP.out⟩
      · have HL := Aside0.mk (show decide (n0 < n1) = false from decide_eq_false hlt)
        clear hlt
        have HBV := Aside0.mk (show B = 0 from by rw [HB.out, if_pos rfl, if_pos rfl, if_neg (of_decide_eq_false HL.out)])
        clear HB
        have HG := Aside0.mk (fun (W : World) (h : Hp w0 W L) => (show (W.cell? ⟨bA, oA, none⟩ = some (.pointer (some ⟨g0, 0, none⟩)) ∧ W.cell? ⟨bA, oA + 1, none⟩ = some (.pointer (some ⟨g1, 0, none⟩))) ∧ W.cell? ⟨g0, 0, none⟩ = some (.int .i64 n0) ∧ W.cell? ⟨g1, 0, none⟩ = some (.int .i64 n1) from HF.out W h))
        clear HF
        go_enter Try.func47, Try.ntmps47
        go_wp2_with fail
        go_loopg [3, 4, 5, 8] 2 (fun kq v3 v4 v5 v8 w' => ∃ (j : Nat), j ≤ 2 ∧ kq + j = 2 ∧ v3 = .int .i64 (match j with | 0 => -1 | 1 => 0 | _ => 0) ∧ v8 = .int .i64 (j : Int) ∧ Aside0 (Hp w0 w' L))
        case atStart => exact ⟨0, by decide, rfl, rfl, rfl, HP⟩
        clear HP
        obtain ⟨j, hj, hk, rfl, rfl, HP⟩ := hrel
        match j, hj, hk with
        | 0, _, hk =>
          have HK := Aside0.mk hk
          clear hk
          have hx := (HG.out _ HP.out).1.1
          have hcmp := HL.out
          go_wp2_with fail
          clear hx
          refine held_named (S := (fun w' => w'.cell? ⟨g0, 0, none⟩ = some (.int .i64 n0) ∧ w'.cell? ⟨g1, 0, none⟩ = some (.int .i64 n1) ∧ w'.cell? ⟨bA, oA, none⟩ = some (.pointer (some ⟨g0, 0, none⟩)))) (by kernel_rfl) (fun wd0 hwd0 => ?_)
          have HPn := Aside0.mk (HP.out.drewN 1)
          rw [← World.drew_is_drewN, hwd0] at HPn
          clear HP hwd0
          have HP := HPn
          clear HPn
          refine ⟨by (try dsimp only); exact ⟨(HG.out _ HP.out).2.1, (HG.out _ HP.out).2.2, (HG.out _ HP.out).1.1⟩, fun hHeld => ?_⟩
          refine wpAnyH_take (i := 0) (oi := ({ dst := (some 13), op := (Op.move (Operand.tmp 5)), type := 88, pos := "super.go:89", after := #[], guard := none } : Oper)) (v := ?_) rfl (by kernel_rfl) (by kernel_rfl) (by kernel_rfl) (fun _ _ _ h => h) (Or.inl ⟨by rfl, ?_⟩) hHeld ?_
          rotate_left
          · intro w_ hSw; (try dsimp only at hSw); go_simp; try (with_reducible rfl)
          try simp only [Act.put, List.setIfInBounds_toArray, List.set_cons_zero, List.set_cons_succ]
          refine wpAnyH_take (i := 1) (oi := ({ dst := (some 14), op := (Op.binOp BinOp.neq 88 (Operand.tmp 13) (Operand.const (Value.pointer none)) 88), type := 4, pos := "super.go:89", after := #[{ on := 0, ground := Ground.data }], guard := none } : Oper)) (v := ?_) rfl (by kernel_rfl) (by kernel_rfl) (by kernel_rfl) (fun _ _ _ h => h) (Or.inl ⟨by rfl, ?_⟩) hHeld ?_
          rotate_left
          · intro w_ hSw; (try dsimp only at hSw); go_simp; try (with_reducible rfl)
          try simp only [Act.put, List.setIfInBounds_toArray, List.set_cons_zero, List.set_cons_succ]
          refine wpAnyH_take (i := 2) (oi := ({ dst := (some 15), op := (Op.move (Operand.tmp 14)), type := 4, pos := "super.go:89", after := #[{ on := 1, ground := Ground.data }], guard := none } : Oper)) (v := ?_) rfl (by kernel_rfl) (by kernel_rfl) (by kernel_rfl) (fun _ _ _ h => h) (Or.inl ⟨by rfl, ?_⟩) hHeld ?_
          rotate_left
          · intro w_ hSw; (try dsimp only at hSw); go_simp; try (with_reducible rfl)
          try simp only [Act.put, List.setIfInBounds_toArray, List.set_cons_zero, List.set_cons_succ]
          refine wpAnyH_take (i := 3) (oi := ({ dst := (some 16), op := (Op.move (Operand.tmp 3)), type := 3, pos := "super.go:89", after := #[{ on := 2, ground := Ground.guard }], guard := (some (2, true)) } : Oper)) (v := ?_) rfl (by kernel_rfl) (by kernel_rfl) (by kernel_rfl) (fun _ _ _ h => h) (Or.inl ⟨by rfl, ?_⟩) hHeld ?_
          rotate_left
          · intro w_ hSw; (try dsimp only at hSw); go_simp; try (with_reducible rfl)
          try simp only [Act.put, List.setIfInBounds_toArray, List.set_cons_zero, List.set_cons_succ]
          refine wpAnyH_take (i := 4) (oi := ({ dst := (some 17), op := (Op.binOp BinOp.lss 3 (Operand.tmp 16) (Operand.const (Value.int IntKind.i64 0)) 3), type := 4, pos := "super.go:89", after := #[{ on := 3, ground := Ground.data }, { on := 2, ground := Ground.guard }], guard := (some (2, true)) } : Oper)) (v := ?_) rfl (by kernel_rfl) (by kernel_rfl) (by kernel_rfl) (fun _ _ _ h => h) (Or.inl ⟨by rfl, ?_⟩) hHeld ?_
          rotate_left
          · intro w_ hSw; (try dsimp only at hSw); go_simp; try (with_reducible rfl)
          try simp only [Act.put, List.setIfInBounds_toArray, List.set_cons_zero, List.set_cons_succ]
          refine wpAnyH_take (i := 5) (oi := ({ dst := (some 18), op := (Op.move (Operand.tmp 17)), type := 4, pos := "super.go:89", after := #[{ on := 4, ground := Ground.data }, { on := 2, ground := Ground.chain }, { on := 2, ground := Ground.guard }], guard := (some (2, true)) } : Oper)) (v := ?_) rfl (by kernel_rfl) (by kernel_rfl) (by kernel_rfl) (fun _ _ _ h => h) (Or.inl ⟨by rfl, ?_⟩) hHeld ?_
          rotate_left
          · intro w_ hSw; (try dsimp only at hSw); go_simp; try (with_reducible rfl)
          try simp only [Act.put, List.setIfInBounds_toArray, List.set_cons_zero, List.set_cons_succ]
          refine wpAnyH_take (i := 6) (oi := ({ dst := (some 19), op := (Op.move (Operand.tmp 5)), type := 88, pos := "super.go:89", after := #[{ on := 5, ground := Ground.guard }], guard := (some (5, false)) } : Oper)) (v := _) rfl (by kernel_rfl) (by kernel_rfl) (by kernel_rfl) (fun _ _ _ h => h) (Or.inr ⟨by rfl, rfl⟩) hHeld ?_
          try simp only [Act.put, List.setIfInBounds_toArray, List.set_cons_zero, List.set_cons_succ]
          refine wpAnyH_take (i := 7) (oi := ({ dst := (some 20), op := (Op.nilCheck (Operand.tmp 19)), type := 0, pos := "super.go:89", after := #[{ on := 6, ground := Ground.data }, { on := 5, ground := Ground.guard }], guard := (some (5, false)) } : Oper)) (v := _) rfl (by kernel_rfl) (by kernel_rfl) (by kernel_rfl) (fun _ _ _ h => h) (Or.inr ⟨by rfl, rfl⟩) hHeld ?_
          try simp only [Act.put, List.setIfInBounds_toArray, List.set_cons_zero, List.set_cons_succ]
          refine wpAnyH_take (i := 8) (oi := ({ dst := (some 21), op := (Op.fieldAddr 25 (Operand.tmp 20) 0), type := 0, pos := "super.go:89", after := #[{ on := 7, ground := Ground.data }, { on := 5, ground := Ground.guard }], guard := (some (5, false)) } : Oper)) (v := _) rfl (by kernel_rfl) (by kernel_rfl) (by kernel_rfl) (fun _ _ _ h => h) (Or.inr ⟨by rfl, rfl⟩) hHeld ?_
          try simp only [Act.put, List.setIfInBounds_toArray, List.set_cons_zero, List.set_cons_succ]
          refine wpAnyH_take (i := 9) (oi := ({ dst := (some 22), op := (Op.load 3 (Operand.tmp 21)), type := 3, pos := "super.go:89", after := #[{ on := 8, ground := Ground.data }, { on := 5, ground := Ground.guard }], guard := (some (5, false)) } : Oper)) (v := _) rfl (by kernel_rfl) (by kernel_rfl) (by kernel_rfl) (fun _ _ _ h => h) (Or.inr ⟨by rfl, rfl⟩) hHeld ?_
          try simp only [Act.put, List.setIfInBounds_toArray, List.set_cons_zero, List.set_cons_succ]
          refine wpAnyH_take (i := 10) (oi := ({ dst := (some 23), op := (Op.move (Operand.tmp 0)), type := 84, pos := "super.go:89", after := #[{ on := 5, ground := Ground.guard }], guard := (some (5, false)) } : Oper)) (v := _) rfl (by kernel_rfl) (by kernel_rfl) (by kernel_rfl) (fun _ _ _ h => h) (Or.inr ⟨by rfl, rfl⟩) hHeld ?_
          try simp only [Act.put, List.setIfInBounds_toArray, List.set_cons_zero, List.set_cons_succ]
          refine wpAnyH_take (i := 11) (oi := ({ dst := (some 24), op := (Op.move (Operand.tmp 3)), type := 3, pos := "super.go:89", after := #[{ on := 5, ground := Ground.guard }], guard := (some (5, false)) } : Oper)) (v := _) rfl (by kernel_rfl) (by kernel_rfl) (by kernel_rfl) (fun _ _ _ h => h) (Or.inr ⟨by rfl, rfl⟩) hHeld ?_
          try simp only [Act.put, List.setIfInBounds_toArray, List.set_cons_zero, List.set_cons_succ]
          refine wpAnyH_take (i := 12) (oi := ({ dst := (some 25), op := (Op.indexAddr 84 (Operand.tmp 23) (Operand.tmp 24)), type := 0, pos := "super.go:89", after := #[{ on := 10, ground := Ground.data }, { on := 11, ground := Ground.data }, { on := 5, ground := Ground.guard }], guard := (some (5, false)) } : Oper)) (v := _) rfl (by kernel_rfl) (by kernel_rfl) (by kernel_rfl) (fun _ _ _ h => h) (Or.inr ⟨by rfl, rfl⟩) hHeld ?_
          try simp only [Act.put, List.setIfInBounds_toArray, List.set_cons_zero, List.set_cons_succ]
          refine wpAnyH_take (i := 13) (oi := ({ dst := (some 26), op := (Op.load 88 (Operand.tmp 25)), type := 88, pos := "super.go:89", after := #[{ on := 12, ground := Ground.data }, { on := 5, ground := Ground.guard }], guard := (some (5, false)) } : Oper)) (v := _) rfl (by kernel_rfl) (by kernel_rfl) (by kernel_rfl) (fun _ _ _ h => h) (Or.inr ⟨by rfl, rfl⟩) hHeld ?_
          try simp only [Act.put, List.setIfInBounds_toArray, List.set_cons_zero, List.set_cons_succ]
          refine wpAnyH_take (i := 14) (oi := ({ dst := (some 27), op := (Op.nilCheck (Operand.tmp 26)), type := 0, pos := "super.go:89", after := #[{ on := 13, ground := Ground.data }, { on := 5, ground := Ground.guard }], guard := (some (5, false)) } : Oper)) (v := _) rfl (by kernel_rfl) (by kernel_rfl) (by kernel_rfl) (fun _ _ _ h => h) (Or.inr ⟨by rfl, rfl⟩) hHeld ?_
          try simp only [Act.put, List.setIfInBounds_toArray, List.set_cons_zero, List.set_cons_succ]
          refine wpAnyH_take (i := 15) (oi := ({ dst := (some 28), op := (Op.fieldAddr 25 (Operand.tmp 27) 0), type := 0, pos := "super.go:89", after := #[{ on := 14, ground := Ground.data }, { on := 5, ground := Ground.guard }], guard := (some (5, false)) } : Oper)) (v := _) rfl (by kernel_rfl) (by kernel_rfl) (by kernel_rfl) (fun _ _ _ h => h) (Or.inr ⟨by rfl, rfl⟩) hHeld ?_
          try simp only [Act.put, List.setIfInBounds_toArray, List.set_cons_zero, List.set_cons_succ]
          refine wpAnyH_take (i := 16) (oi := ({ dst := (some 29), op := (Op.load 3 (Operand.tmp 28)), type := 3, pos := "super.go:89", after := #[{ on := 15, ground := Ground.data }, { on := 5, ground := Ground.guard }], guard := (some (5, false)) } : Oper)) (v := _) rfl (by kernel_rfl) (by kernel_rfl) (by kernel_rfl) (fun _ _ _ h => h) (Or.inr ⟨by rfl, rfl⟩) hHeld ?_
          try simp only [Act.put, List.setIfInBounds_toArray, List.set_cons_zero, List.set_cons_succ]
          refine wpAnyH_take (i := 17) (oi := ({ dst := (some 30), op := (Op.binOp BinOp.gtr 3 (Operand.tmp 22) (Operand.tmp 29) 3), type := 4, pos := "super.go:89", after := #[{ on := 9, ground := Ground.data }, { on := 16, ground := Ground.data }, { on := 5, ground := Ground.guard }], guard := (some (5, false)) } : Oper)) (v := _) rfl (by kernel_rfl) (by kernel_rfl) (by kernel_rfl) (fun _ _ _ h => h) (Or.inr ⟨by rfl, rfl⟩) hHeld ?_
          try simp only [Act.put, List.setIfInBounds_toArray, List.set_cons_zero, List.set_cons_succ]
          refine wpAnyH_take (i := 18) (oi := ({ dst := (some 31), op := (Op.pick (Operand.tmp 18) (Operand.const (Value.bool true)) (Operand.tmp 30)), type := 4, pos := "super.go:89", after := #[{ on := 5, ground := Ground.data }, { on := 17, ground := Ground.data }, { on := 2, ground := Ground.guard }], guard := (some (2, true)) } : Oper)) (v := ?_) rfl (by kernel_rfl) (by kernel_rfl) (by kernel_rfl) (fun _ _ _ h => h) (Or.inl ⟨by rfl, ?_⟩) hHeld ?_
          rotate_left
          · intro w_ hSw; (try dsimp only at hSw); go_simp; try (with_reducible rfl)
          try simp only [Act.put, List.setIfInBounds_toArray, List.set_cons_zero, List.set_cons_succ]
          refine wpAnyH_take (i := 19) (oi := ({ dst := (some 32), op := (Op.pick (Operand.tmp 15) (Operand.tmp 31) (Operand.const (Value.bool false))), type := 4, pos := "super.go:89", after := #[{ on := 2, ground := Ground.data }, { on := 18, ground := Ground.data }], guard := none } : Oper)) (v := ?_) rfl (by kernel_rfl) (by kernel_rfl) (by kernel_rfl) (fun _ _ _ h => h) (Or.inl ⟨by rfl, ?_⟩) hHeld ?_
          rotate_left
          · intro w_ hSw; (try dsimp only at hSw); go_simp; try (with_reducible rfl)
          try simp only [Act.put, List.setIfInBounds_toArray, List.set_cons_zero, List.set_cons_succ]
          refine wpAnyH_done (by kernel_rfl) ?_ _
          clear hHeld hcmp
          go_wp2_with fail
          go_roundg (gk - 1)
          case measure => have := HK.out; omega
          case rel => exact ⟨1, by decide, by have := HK.out; omega, rfl, rfl, HP⟩
        | 1, _, hk =>
          have HK := Aside0.mk hk
          clear hk
          have hx := (HG.out _ HP.out).1.2
          have hcmp := HL.out
          go_wp2_with fail
          clear hx
          refine held_named (S := (fun w' => w'.cell? ⟨g0, 0, none⟩ = some (.int .i64 n0) ∧ w'.cell? ⟨g1, 0, none⟩ = some (.int .i64 n1) ∧ w'.cell? ⟨bA, oA, none⟩ = some (.pointer (some ⟨g0, 0, none⟩)))) (by kernel_rfl) (fun wd0 hwd0 => ?_)
          have HPn := Aside0.mk (HP.out.drewN 1)
          rw [← World.drew_is_drewN, hwd0] at HPn
          clear HP hwd0
          have HP := HPn
          clear HPn
          refine ⟨by (try dsimp only); exact ⟨(HG.out _ HP.out).2.1, (HG.out _ HP.out).2.2, (HG.out _ HP.out).1.1⟩, fun hHeld => ?_⟩
          refine wpAnyH_take (i := 0) (oi := ({ dst := (some 13), op := (Op.move (Operand.tmp 5)), type := 88, pos := "super.go:89", after := #[], guard := none } : Oper)) (v := ?_) rfl (by kernel_rfl) (by kernel_rfl) (by kernel_rfl) (fun _ _ _ h => h) (Or.inl ⟨by rfl, ?_⟩) hHeld ?_
          rotate_left
          · intro w_ hSw; (try dsimp only at hSw); go_simp; try (with_reducible rfl)
          try simp only [Act.put, List.setIfInBounds_toArray, List.set_cons_zero, List.set_cons_succ]
          refine wpAnyH_take (i := 1) (oi := ({ dst := (some 14), op := (Op.binOp BinOp.neq 88 (Operand.tmp 13) (Operand.const (Value.pointer none)) 88), type := 4, pos := "super.go:89", after := #[{ on := 0, ground := Ground.data }], guard := none } : Oper)) (v := ?_) rfl (by kernel_rfl) (by kernel_rfl) (by kernel_rfl) (fun _ _ _ h => h) (Or.inl ⟨by rfl, ?_⟩) hHeld ?_
          rotate_left
          · intro w_ hSw; (try dsimp only at hSw); go_simp; try (with_reducible rfl)
          try simp only [Act.put, List.setIfInBounds_toArray, List.set_cons_zero, List.set_cons_succ]
          refine wpAnyH_take (i := 2) (oi := ({ dst := (some 15), op := (Op.move (Operand.tmp 14)), type := 4, pos := "super.go:89", after := #[{ on := 1, ground := Ground.data }], guard := none } : Oper)) (v := ?_) rfl (by kernel_rfl) (by kernel_rfl) (by kernel_rfl) (fun _ _ _ h => h) (Or.inl ⟨by rfl, ?_⟩) hHeld ?_
          rotate_left
          · intro w_ hSw; (try dsimp only at hSw); go_simp; try (with_reducible rfl)
          try simp only [Act.put, List.setIfInBounds_toArray, List.set_cons_zero, List.set_cons_succ]
          refine wpAnyH_take (i := 3) (oi := ({ dst := (some 16), op := (Op.move (Operand.tmp 3)), type := 3, pos := "super.go:89", after := #[{ on := 2, ground := Ground.guard }], guard := (some (2, true)) } : Oper)) (v := ?_) rfl (by kernel_rfl) (by kernel_rfl) (by kernel_rfl) (fun _ _ _ h => h) (Or.inl ⟨by rfl, ?_⟩) hHeld ?_
          rotate_left
          · intro w_ hSw; (try dsimp only at hSw); go_simp; try (with_reducible rfl)
          try simp only [Act.put, List.setIfInBounds_toArray, List.set_cons_zero, List.set_cons_succ]
          refine wpAnyH_take (i := 4) (oi := ({ dst := (some 17), op := (Op.binOp BinOp.lss 3 (Operand.tmp 16) (Operand.const (Value.int IntKind.i64 0)) 3), type := 4, pos := "super.go:89", after := #[{ on := 3, ground := Ground.data }, { on := 2, ground := Ground.guard }], guard := (some (2, true)) } : Oper)) (v := ?_) rfl (by kernel_rfl) (by kernel_rfl) (by kernel_rfl) (fun _ _ _ h => h) (Or.inl ⟨by rfl, ?_⟩) hHeld ?_
          rotate_left
          · intro w_ hSw; (try dsimp only at hSw); go_simp; try (with_reducible rfl)
          try simp only [Act.put, List.setIfInBounds_toArray, List.set_cons_zero, List.set_cons_succ]
          refine wpAnyH_take (i := 5) (oi := ({ dst := (some 18), op := (Op.move (Operand.tmp 17)), type := 4, pos := "super.go:89", after := #[{ on := 4, ground := Ground.data }, { on := 2, ground := Ground.chain }, { on := 2, ground := Ground.guard }], guard := (some (2, true)) } : Oper)) (v := ?_) rfl (by kernel_rfl) (by kernel_rfl) (by kernel_rfl) (fun _ _ _ h => h) (Or.inl ⟨by rfl, ?_⟩) hHeld ?_
          rotate_left
          · intro w_ hSw; (try dsimp only at hSw); go_simp; try (with_reducible rfl)
          try simp only [Act.put, List.setIfInBounds_toArray, List.set_cons_zero, List.set_cons_succ]
          refine wpAnyH_take (i := 6) (oi := ({ dst := (some 19), op := (Op.move (Operand.tmp 5)), type := 88, pos := "super.go:89", after := #[{ on := 5, ground := Ground.guard }], guard := (some (5, false)) } : Oper)) (v := ?_) rfl (by kernel_rfl) (by kernel_rfl) (by kernel_rfl) (fun _ _ _ h => h) (Or.inl ⟨by rfl, ?_⟩) hHeld ?_
          rotate_left
          · intro w_ hSw; (try dsimp only at hSw); go_simp; try (with_reducible rfl)
          try simp only [Act.put, List.setIfInBounds_toArray, List.set_cons_zero, List.set_cons_succ]
          refine wpAnyH_take (i := 7) (oi := ({ dst := (some 20), op := (Op.nilCheck (Operand.tmp 19)), type := 0, pos := "super.go:89", after := #[{ on := 6, ground := Ground.data }, { on := 5, ground := Ground.guard }], guard := (some (5, false)) } : Oper)) (v := ?_) rfl (by kernel_rfl) (by kernel_rfl) (by kernel_rfl) (fun _ _ _ h => h) (Or.inl ⟨by rfl, ?_⟩) hHeld ?_
          rotate_left
          · intro w_ hSw; (try dsimp only at hSw); go_simp; try (with_reducible rfl)
          try simp only [Act.put, List.setIfInBounds_toArray, List.set_cons_zero, List.set_cons_succ]
          refine wpAnyH_take (i := 8) (oi := ({ dst := (some 21), op := (Op.fieldAddr 25 (Operand.tmp 20) 0), type := 0, pos := "super.go:89", after := #[{ on := 7, ground := Ground.data }, { on := 5, ground := Ground.guard }], guard := (some (5, false)) } : Oper)) (v := ?_) rfl (by kernel_rfl) (by kernel_rfl) (by kernel_rfl) (fun _ _ _ h => h) (Or.inl ⟨by rfl, ?_⟩) hHeld ?_
          rotate_left
          · intro w_ hSw; (try dsimp only at hSw); go_simp; try (with_reducible rfl)
          try simp only [Act.put, List.setIfInBounds_toArray, List.set_cons_zero, List.set_cons_succ]
          refine wpAnyH_take (i := 9) (oi := ({ dst := (some 22), op := (Op.load 3 (Operand.tmp 21)), type := 3, pos := "super.go:89", after := #[{ on := 8, ground := Ground.data }, { on := 5, ground := Ground.guard }], guard := (some (5, false)) } : Oper)) (v := ?_) rfl (by kernel_rfl) (by kernel_rfl) (by kernel_rfl) (fun _ _ _ h => h) (Or.inl ⟨by rfl, ?_⟩) hHeld ?_
          rotate_left
          · intro w_ hSw; (try dsimp only at hSw); go_simp; try (with_reducible rfl)
          try simp only [Act.put, List.setIfInBounds_toArray, List.set_cons_zero, List.set_cons_succ]
          refine wpAnyH_take (i := 10) (oi := ({ dst := (some 23), op := (Op.move (Operand.tmp 0)), type := 84, pos := "super.go:89", after := #[{ on := 5, ground := Ground.guard }], guard := (some (5, false)) } : Oper)) (v := ?_) rfl (by kernel_rfl) (by kernel_rfl) (by kernel_rfl) (fun _ _ _ h => h) (Or.inl ⟨by rfl, ?_⟩) hHeld ?_
          rotate_left
          · intro w_ hSw; (try dsimp only at hSw); go_simp; try (with_reducible rfl)
          try simp only [Act.put, List.setIfInBounds_toArray, List.set_cons_zero, List.set_cons_succ]
          refine wpAnyH_take (i := 11) (oi := ({ dst := (some 24), op := (Op.move (Operand.tmp 3)), type := 3, pos := "super.go:89", after := #[{ on := 5, ground := Ground.guard }], guard := (some (5, false)) } : Oper)) (v := ?_) rfl (by kernel_rfl) (by kernel_rfl) (by kernel_rfl) (fun _ _ _ h => h) (Or.inl ⟨by rfl, ?_⟩) hHeld ?_
          rotate_left
          · intro w_ hSw; (try dsimp only at hSw); go_simp; try (with_reducible rfl)
          try simp only [Act.put, List.setIfInBounds_toArray, List.set_cons_zero, List.set_cons_succ]
          refine wpAnyH_take (i := 12) (oi := ({ dst := (some 25), op := (Op.indexAddr 84 (Operand.tmp 23) (Operand.tmp 24)), type := 0, pos := "super.go:89", after := #[{ on := 10, ground := Ground.data }, { on := 11, ground := Ground.data }, { on := 5, ground := Ground.guard }], guard := (some (5, false)) } : Oper)) (v := ?_) rfl (by kernel_rfl) (by kernel_rfl) (by kernel_rfl) (fun _ _ _ h => h) (Or.inl ⟨by rfl, ?_⟩) hHeld ?_
          rotate_left
          · intro w_ hSw; (try dsimp only at hSw); go_simp; try (with_reducible rfl)
          try simp only [Act.put, List.setIfInBounds_toArray, List.set_cons_zero, List.set_cons_succ]
          refine wpAnyH_take (i := 13) (oi := ({ dst := (some 26), op := (Op.load 88 (Operand.tmp 25)), type := 88, pos := "super.go:89", after := #[{ on := 12, ground := Ground.data }, { on := 5, ground := Ground.guard }], guard := (some (5, false)) } : Oper)) (v := ?_) rfl (by kernel_rfl) (by kernel_rfl) (by kernel_rfl) (fun _ _ _ h => h) (Or.inl ⟨by rfl, ?_⟩) hHeld ?_
          rotate_left
          · intro w_ hSw; (try dsimp only at hSw); go_simp; try (with_reducible rfl)
          try simp only [Act.put, List.setIfInBounds_toArray, List.set_cons_zero, List.set_cons_succ]
          refine wpAnyH_take (i := 14) (oi := ({ dst := (some 27), op := (Op.nilCheck (Operand.tmp 26)), type := 0, pos := "super.go:89", after := #[{ on := 13, ground := Ground.data }, { on := 5, ground := Ground.guard }], guard := (some (5, false)) } : Oper)) (v := ?_) rfl (by kernel_rfl) (by kernel_rfl) (by kernel_rfl) (fun _ _ _ h => h) (Or.inl ⟨by rfl, ?_⟩) hHeld ?_
          rotate_left
          · intro w_ hSw; (try dsimp only at hSw); go_simp; try (with_reducible rfl)
          try simp only [Act.put, List.setIfInBounds_toArray, List.set_cons_zero, List.set_cons_succ]
          refine wpAnyH_take (i := 15) (oi := ({ dst := (some 28), op := (Op.fieldAddr 25 (Operand.tmp 27) 0), type := 0, pos := "super.go:89", after := #[{ on := 14, ground := Ground.data }, { on := 5, ground := Ground.guard }], guard := (some (5, false)) } : Oper)) (v := ?_) rfl (by kernel_rfl) (by kernel_rfl) (by kernel_rfl) (fun _ _ _ h => h) (Or.inl ⟨by rfl, ?_⟩) hHeld ?_
          rotate_left
          · intro w_ hSw; (try dsimp only at hSw); go_simp; try (with_reducible rfl)
          try simp only [Act.put, List.setIfInBounds_toArray, List.set_cons_zero, List.set_cons_succ]
          refine wpAnyH_take (i := 16) (oi := ({ dst := (some 29), op := (Op.load 3 (Operand.tmp 28)), type := 3, pos := "super.go:89", after := #[{ on := 15, ground := Ground.data }, { on := 5, ground := Ground.guard }], guard := (some (5, false)) } : Oper)) (v := ?_) rfl (by kernel_rfl) (by kernel_rfl) (by kernel_rfl) (fun _ _ _ h => h) (Or.inl ⟨by rfl, ?_⟩) hHeld ?_
          rotate_left
          · intro w_ hSw; (try dsimp only at hSw); go_simp; try (with_reducible rfl)
          try simp only [Act.put, List.setIfInBounds_toArray, List.set_cons_zero, List.set_cons_succ]
          refine wpAnyH_take (i := 17) (oi := ({ dst := (some 30), op := (Op.binOp BinOp.gtr 3 (Operand.tmp 22) (Operand.tmp 29) 3), type := 4, pos := "super.go:89", after := #[{ on := 9, ground := Ground.data }, { on := 16, ground := Ground.data }, { on := 5, ground := Ground.guard }], guard := (some (5, false)) } : Oper)) (v := ?_) rfl (by kernel_rfl) (by kernel_rfl) (by kernel_rfl) (fun _ _ _ h => h) (Or.inl ⟨by rfl, ?_⟩) hHeld ?_
          rotate_left
          · intro w_ hSw; (try dsimp only at hSw); go_simp; try (with_reducible rfl)
          try simp only [Act.put, List.setIfInBounds_toArray, List.set_cons_zero, List.set_cons_succ]
          refine wpAnyH_take (i := 18) (oi := ({ dst := (some 31), op := (Op.pick (Operand.tmp 18) (Operand.const (Value.bool true)) (Operand.tmp 30)), type := 4, pos := "super.go:89", after := #[{ on := 5, ground := Ground.data }, { on := 17, ground := Ground.data }, { on := 2, ground := Ground.guard }], guard := (some (2, true)) } : Oper)) (v := ?_) rfl (by kernel_rfl) (by kernel_rfl) (by kernel_rfl) (fun _ _ _ h => h) (Or.inl ⟨by rfl, ?_⟩) hHeld ?_
          rotate_left
          · intro w_ hSw; (try dsimp only at hSw); go_simp; try (with_reducible rfl)
          try simp only [Act.put, List.setIfInBounds_toArray, List.set_cons_zero, List.set_cons_succ]
          refine wpAnyH_take (i := 19) (oi := ({ dst := (some 32), op := (Op.pick (Operand.tmp 15) (Operand.tmp 31) (Operand.const (Value.bool false))), type := 4, pos := "super.go:89", after := #[{ on := 2, ground := Ground.data }, { on := 18, ground := Ground.data }], guard := none } : Oper)) (v := ?_) rfl (by kernel_rfl) (by kernel_rfl) (by kernel_rfl) (fun _ _ _ h => h) (Or.inl ⟨by rfl, ?_⟩) hHeld ?_
          rotate_left
          · intro w_ hSw; (try dsimp only at hSw); go_simp; try (with_reducible rfl)
          try simp only [Act.put, List.setIfInBounds_toArray, List.set_cons_zero, List.set_cons_succ]
          refine wpAnyH_done (by kernel_rfl) ?_ _
          clear hHeld hcmp
          go_wp2_with fail
          go_roundg (gk - 1)
          case measure => have := HK.out; omega
          case rel => exact ⟨2, by decide, by have := HK.out; omega, rfl, rfl, HP⟩
        | 2, _, hk =>
          clear hk
          go_wp2_with fail
          go_ret
          exact ⟨by rw [HBV.out]; rfl, HP.out⟩
end Go.Proofs.Ytgflghnbpbiakaa.Su
namespace Go.Proofs.Ytgflghnbpbiakaa.Su
open Go.Proofs.Ytgflghnbpbiakaa.H hiding C_ints cellL cellN ev_copy ev_store_mid frozC i64k run_cut_all run_cut_arr run_cut_to setL set_self
open Go.RowKit Go.Proofs.Ytgflghnbpbiakaa.XH Go.Proofs.YtgflghnbpbiakaaW.PrintWords Go.Proofs.YtgflghnbpbiakaaW.PrintLast Go.Proofs.YtgflghnbpbiakaaW.PrintMore Go.Proofs.YtgflghnbpbiakaaXe Go.Proofs.YtgflghnbpbiakaaXs
set_option linter.unusedVariables false
set_option linter.unusedSimpArgs false
attribute [local go_sem ↓] Go.wp_at_zero Go.wp_at_succ
attribute [local go_sem] valUpon
open Go.Proofs.Ytgflghnbpbiakaa.D hiding c_len c_new c_write
attribute [local go_sem ↓ high] bn23 bn25
attribute [local go_sem high] BN25.z
theorem resCTT {P : Program} {fn : Func} {p p2 p3 : Tmp} {ty : TypeId} (h : fn.results = #[.cell p ty, .tmp p2, .tmp p3]) (tmps : Array Value) (w : World) {g : Nat} {t : TypeId} {cs : Array Value} {fr : Nat × Nat} {d : TypeDesc} {v v3 : Value}
    (hp : tmps.getD p undef = .pointer (some ⟨g, 0, none⟩)) (hg : w.heap[g]? = some (.cells cs t fr)) (hu : P.underlying ty = some d) (hd : (match d with | .struct _ | .array _ _ => true | _ => false) = true) (hi : (P.info? ty).map (·.size) = some cs.size)
    (hp2 : tmps.getD p2 undef = v) (hp3 : tmps.getD p3 undef = v3) : (results fn tmps).run P w = .ok (.tuple #[.agg cs, v, v3]) w := by
  have hp' : tmps[p]?.getD undef = .pointer (some ⟨g, 0, none⟩) := by simpa using hp
  have hp2' : tmps[p2]?.getD undef = v := by simpa using hp2
  have hp3' : tmps[p3]?.getD undef = v3 := by simpa using hp3
  simp [results, h, hp', hp2', hp3', asAddr, run_loadVar_row w g t ty cs fr d hg hu hd hi]
noncomputable def bestD (S : DS) : Int := bestB (sec S 0) (sec S 1)
noncomputable def loadE (S : DS) : Int := if slotsE S ≠ 0 then slotsE S else if 0 ≤ bestD S then 0 else if blankS S then 6 else 11
noncomputable def loadS (S : DS) : SP := if slotsE S ≠ 0 then s0 else if 0 ≤ bestD S then unpS (sec S (bestD S)) else s0
noncomputable def loadK (S : DS) : Int := if slotsE S ≠ 0 then 0 else if 0 ≤ bestD S then bestD S else 0
theorem best_cases (S : DS) : bestD S = -1 ∨ (bestD S = 0 ∧ isS (sec S 0) = true) ∨ (bestD S = 1 ∧ isS (sec S 1) = true) := by
  unfold bestD bestB
  cases h0 : isS (sec S 0) <;> cases h1 : isS (sec S 1) <;> simp
  by_cases h : (unpS (sec S 0)).num < (unpS (sec S 1)).num
  · simp [h]
  · simp [h]; omega
noncomputable def otherD (S : DS) : Int := if bestD S = 0 then 1 else 0
noncomputable def lateD (S : DS) (s : SP) : Bool := decide (0 ≤ bestD S) && decide (s.num ≤ (unpS (sec S (bestD S))).num)
noncomputable def saveE (S : DS) (s : SP) : Int := if chk s = false then 2 else if slotsE S ≠ 0 then slotsE S else if lateD S s then 5 else if writeE S (otherD S) (packS s) ≠ 0 then writeE S (otherD S) (packS s) else flushE (writeS S (otherD S) (packS s))
noncomputable def saveS (S : DS) (s : SP) : DS := if chk s = false then S else if slotsE S ≠ 0 then S else if lateD S s then S else if writeE S (otherD S) (packS s) ≠ 0 then writeS S (otherD S) (packS s) else flushS (writeS S (otherD S) (packS s))
set_option maxHeartbeats 8000000 in
theorem c_read0 {w0 w : World} {Rs : List Res} (HP : Hp w0 w Rs) (i g : Nat) (S : DS) (hi : Rs[i]? = some (rDisk w0.heap.size g S)) (hok : okD S) :
    Calls Try.prog 48 #[.pointer (some ⟨g, 0, none⟩), .int .i64 0] w fun e w' => ∃ v r, e = .returned (.tuple #[v, .int .i64 r]) ∧ (r == 1) = false ∧ Hp w0 w' Rs := by
  by_cases h : S.readyE 0 = 0
  · refine (c_read HP i g S hi 0 (by have := hok.2.2; omega) h).mono ?_
    rintro e w1 ⟨gr, rfl, -, hpn⟩
    exact ⟨_, _, rfl, rfl, hpn.drop1⟩
  · refine (c_readE HP i g S hi 0 h).mono ?_
    rintro e w1 ⟨rfl, rfl⟩
    refine ⟨_, _, rfl, beq_eq_false_iff_ne.2 ?_, HP⟩
    rcases (ready_cases S).2.2 with h1 | h1 | h1 <;> omega
theorem write_len (S : DS) (n : Int) (b : List Int) (h : S.l.length ≤ 1000) : (writeS S n b).l.length ≤ 1000000 := by
  unfold writeS
  split
  · omega
  · split
    · omega
    · split
      · show S.l.length ≤ 1000000; omega
      · simp [DS.step]; omega
set_option maxHeartbeats 8000000 in
set_option maxRecDepth 100000 in
theorem c_load {w0 w : World} {Rs : List Res} (HP0 : Hp w0 w Rs) (i g : Nat) (S : DS) (hi : Rs[i]? = some (rDisk w0.heap.size g S)) (hok : okD S) :
    Calls Try.prog 19 #[.pointer (some ⟨g, 0, none⟩)] w fun e w' => e = .returned (.tuple #[.agg (c25 (loadS S)).toArray, .int .i64 (loadK S), .int .i64 (loadE S)]) ∧ Hp w0 w' Rs := by
  have HP := Aside0.mk HP0
  have HI := Aside0.mk hi
  have HOK := Aside0.mk hok
  have HBC := Aside0.mk (best_cases S)
  have HV := Aside0.mk (show (slotsE S ≠ 0 → loadS S = s0 ∧ loadK S = 0 ∧ loadE S = slotsE S) ∧ (slotsE S = 0 → 0 ≤ bestD S → loadS S = unpS (sec S (bestD S)) ∧ loadK S = bestD S ∧ loadE S = 0) ∧ (slotsE S = 0 → ¬ 0 ≤ bestD S → loadS S = s0 ∧ loadK S = 0 ∧ loadE S = if blankS S then 6 else 11) from by
    unfold loadS loadK loadE
    refine ⟨fun h => ?_, fun h h2 => ?_, fun h h2 => ?_⟩
    · rw [if_pos h, if_pos h, if_pos h]; exact ⟨rfl, rfl, rfl⟩
    · simp [h, h2]
    · simp [h, h2])
  clear HP0 hi hok
  go_enter Try.func19, Try.ntmps19
  go_wp2_with (first | ((with_reducible refine gate_dst (N := 2) rfl ?_); refine ev_alloc rfl 25 rfl (.agg (c25 s0).toArray) (by kernel_rfl) ?_; intro g_o w1 hge hg hb; have HPn := Aside0.mk (HP.out.newB hb hg hge); clear HP; have HP := HPn; clear HPn; clear hge hg hb))
  refine (c_slots HP.out (i + 1) g S HI.out HOK.out).mono ?_
  rintro e w2 (⟨hne, rfl, hpn⟩ | ⟨h0, A, c, g0, g1, rfl, hpn⟩)
  · clear HP
    have HP := Aside0.mk hpn
    have HVV := Aside0.mk (HV.out.1 hne)
    obtain ⟨q, hq⟩ : ∃ z, slotsE S = z := ⟨_, rfl⟩
    rw [hq] at hne HVV ⊢
    have d0 : (q != 0) = true := bne_iff_ne.2 hne
    clear hne hpn hq HV HBC
    go_wp2_with (first | ((with_reducible refine gate_store (t := 25) (p := 2) rfl ?_); refine ev_store rfl 25 (.tmp 2) (.tmp 17) rfl rfl _ rfl (cells := (c25 s0).toArray) rfl (HP.out.blk 0 rfl) (by rw [List.size_toArray, c25_len s0 rfl]; kernel_rfl) (by rfl) (c25_one s0) ?_; intro w3 hg hgr; have HPn := Aside0.mk (HP.out.setB 0 rfl hgr hg); clear HP; have HP := HPn; clear HPn; clear hg hgr))
    refine bodyPost_ret (resCTT rfl _ _ rfl (HP.out.blk 0 rfl) Try.underlying25 rfl (by rw [List.size_toArray, c25_len s0 rfl]; kernel_rfl) rfl rfl) rfl ?_
    exact ⟨by rw [HVV.out.1, HVV.out.2.1, HVV.out.2.2]; rfl, HP.out.drop1⟩
  have HVA := Aside0.mk (HV.out.2 )
  rw [h0] at HVA
  clear HP HV h0
  have HP := Aside0.mk hpn
  clear hpn
  go_wp2_with fail
  refine (c_greatest S A c g0 g1 HP.out).mono ?_; rintro e w3 ⟨rfl, hpn⟩
  obtain ⟨bA, oA, rfl⟩ := rowA (hpn.row 0 rfl)
  have hx := rowP (hpn.row 0 rfl)
  clear HP
  have HP := Aside0.mk (show Hp w0 w3 (.row KP 88 w0.heap.size (.slice (some ⟨bA, oA, none⟩) 2 c) [ptrO g0 (sec S 0), ptrO g1 (sec S 1)] :: supR g1 (sec S 1) :: supR g0 (sec S 0) :: .blk g_o (.cells (c25 s0).toArray 25 (0, 0)) :: Rs) from hpn)
  clear hpn
  obtain ⟨B, hB⟩ : ∃ z, bestD S = z := ⟨_, rfl⟩
  rw [hB] at HVA HBC
  rw [show bestB (sec S 0) (sec S 1) = B from hB]
  have hbc := HBC.out
  clear hB HBC
  rcases hbc with rfl | ⟨rfl, hs⟩ | ⟨rfl, hs⟩
  · have HVV := Aside0.mk (HVA.out.2 (by trivial) (by decide))
    clear HVA hx
    obtain ⟨t, ht⟩ : ∃ z, blankS S = z := ⟨_, rfl⟩
    rw [ht] at HVV ⊢
    clear ht
    cases t
    · go_wp2_with (first | ((with_reducible refine gate_store (t := 25) (p := 2) rfl ?_); refine ev_store rfl 25 (.tmp 2) (.tmp 34) rfl rfl _ rfl (cells := (c25 s0).toArray) rfl (HP.out.blk 3 rfl) (by rw [List.size_toArray, c25_len s0 rfl]; kernel_rfl) (by rfl) (c25_one s0) ?_; intro w4 hg hgr; have HPn := Aside0.mk (HP.out.setB 3 rfl hgr hg); clear HP; have HP := HPn; clear HPn; clear hg hgr))
      refine bodyPost_ret (resCTT rfl _ _ rfl (HP.out.blk 3 rfl) Try.underlying25 rfl (by rw [List.size_toArray, c25_len s0 rfl]; kernel_rfl) rfl rfl) rfl ?_
      exact ⟨by rw [HVV.out.1, HVV.out.2.1, HVV.out.2.2]; rfl, Hp.dropN [_, _, _, _] HP.out⟩
    · go_wp2_with (first | ((with_reducible refine gate_store (t := 25) (p := 2) rfl ?_); refine ev_store rfl 25 (.tmp 2) (.tmp 33) rfl rfl _ rfl (cells := (c25 s0).toArray) rfl (HP.out.blk 3 rfl) (by rw [List.size_toArray, c25_len s0 rfl]; kernel_rfl) (by rfl) (c25_one s0) ?_; intro w4 hg hgr; have HPn := Aside0.mk (HP.out.setB 3 rfl hgr hg); clear HP; have HP := HPn; clear HPn; clear hg hgr))
      refine bodyPost_ret (resCTT rfl _ _ rfl (HP.out.blk 3 rfl) Try.underlying25 rfl (by rw [List.size_toArray, c25_len s0 rfl]; kernel_rfl) rfl rfl) rfl ?_
      exact ⟨by rw [HVV.out.1, HVV.out.2.1, HVV.out.2.2]; rfl, Hp.dropN [_, _, _, _] HP.out⟩
  · have HVV := Aside0.mk (HVA.out.1 (by trivial) (by decide))
    have hxx := hx.1
    rw [ptrO_t hs] at hxx
    clear HVA hx hs
    have HPn := Aside0.mk (show Hp w0 w3 (_ :: .blk g1 (.cells (c25 (unpS (sec S 1))).toArray 25 (0, 0)) :: .blk g0 (.cells (c25 (unpS (sec S 0))).toArray 25 (0, 0)) :: _) from HP.out)
    clear HP
    have HP := HPn
    clear HPn
    go_wp2_with (first | ((with_reducible refine gate_dst (N := 29) rfl ?_); refine ev_load rfl 25 (.tmp 28) rfl g0 rfl (HP.out.blk 2 rfl) Try.underlying25 rfl (by rw [List.size_toArray, c25_len _ (unpS_root _)]; kernel_rfl) ?_) | ((with_reducible refine gate_store (t := 25) (p := 2) rfl ?_); refine ev_store rfl 25 (.tmp 2) (.tmp 29) rfl rfl _ rfl (cells := (c25 (unpS (sec S 0))).toArray) rfl (HP.out.blk 3 rfl) (by rw [List.size_toArray, c25_len _ (unpS_root _)]; kernel_rfl) (by rw [List.size_toArray, List.size_toArray, c25_len _ (unpS_root _), c25_len s0 rfl]) (c25_one _) ?_; intro w4 hg hgr; have HPn := Aside0.mk (HP.out.setB 3 rfl hgr hg); clear HP; have HP := HPn; clear HPn; clear hg hgr))
    refine bodyPost_ret (resCTT rfl _ _ rfl (HP.out.blk 3 rfl) Try.underlying25 rfl (by rw [List.size_toArray, c25_len _ (unpS_root _)]; kernel_rfl) rfl rfl) rfl ?_
    exact ⟨by rw [HVV.out.1, HVV.out.2.1, HVV.out.2.2]; rfl, Hp.dropN [_, _, _, _] HP.out⟩
  · have HVV := Aside0.mk (HVA.out.1 (by trivial) (by decide))
    have hxx := hx.2
    rw [ptrO_t hs] at hxx
    clear HVA hx hs
    have HPn := Aside0.mk (show Hp w0 w3 (_ :: .blk g1 (.cells (c25 (unpS (sec S 1))).toArray 25 (0, 0)) :: .blk g0 (.cells (c25 (unpS (sec S 0))).toArray 25 (0, 0)) :: _) from HP.out)
    clear HP
    have HP := HPn
    clear HPn
    go_wp2_with (first | ((with_reducible refine gate_dst (N := 29) rfl ?_); refine ev_load rfl 25 (.tmp 28) rfl g1 rfl (HP.out.blk 1 rfl) Try.underlying25 rfl (by rw [List.size_toArray, c25_len _ (unpS_root _)]; kernel_rfl) ?_) | ((with_reducible refine gate_store (t := 25) (p := 2) rfl ?_); refine ev_store rfl 25 (.tmp 2) (.tmp 29) rfl rfl _ rfl (cells := (c25 (unpS (sec S 1))).toArray) rfl (HP.out.blk 3 rfl) (by rw [List.size_toArray, c25_len _ (unpS_root _)]; kernel_rfl) (by rw [List.size_toArray, List.size_toArray, c25_len _ (unpS_root _), c25_len s0 rfl]) (c25_one _) ?_; intro w4 hg hgr; have HPn := Aside0.mk (HP.out.setB 3 rfl hgr hg); clear HP; have HP := HPn; clear HPn; clear hg hgr))
    refine bodyPost_ret (resCTT rfl _ _ rfl (HP.out.blk 3 rfl) Try.underlying25 rfl (by rw [List.size_toArray, c25_len _ (unpS_root _)]; kernel_rfl) rfl rfl) rfl ?_
    exact ⟨by rw [HVV.out.1, HVV.out.2.1, HVV.out.2.2]; rfl, Hp.dropN [_, _, _, _] HP.out⟩
set_option maxHeartbeats 8000000 in
set_option maxRecDepth 100000 in
theorem c_save {w0 w : World} {Rs : List Res} (HP0 : Hp w0 w Rs) (i g : Nat) (S : DS) (hi : Rs[i]? = some (rDisk w0.heap.size g S)) (hok : okD S) (s : SP) (hl : s.root.length = 32) :
    Calls Try.prog 20 #[.pointer (some ⟨g, 0, none⟩), .agg (c25 s).toArray] w fun e w' => e = .returned (.int .i64 (saveE S s)) ∧ Hp w0 w' (Rs.set i (rDisk w0.heap.size g (saveS S s))) := by
  have HP := Aside0.mk HP0
  have HI := Aside0.mk hi
  have HOK := Aside0.mk hok
  have HBC := Aside0.mk (best_cases S)
  have HSELF := Aside0.mk (show Rs.set i (rDisk w0.heap.size g S) = Rs from set_self hi)
  have HIL := Aside0.mk (show i < Rs.length from (List.getElem?_eq_some_iff.1 hi).1)
  have HL35 := Aside0.mk (c25_len s hl)
  have HN := Aside0.mk (c25_0 s)
  have CP0 := Aside0.mk (fun (h : chk s = false) w => c_spack0 s hl h w)
  have CP8 := Aside0.mk (fun (h : chk s = true) w => c_spack8 s hl h w)
  have HPL := Aside0.mk (packS_len s hl)
  obtain ⟨cs, hcs⟩ : ∃ z, c25 s = z := ⟨_, rfl⟩
  rw [hcs] at HL35 HN CP0 CP8 ⊢
  clear hcs HP0 hi hok hl
  go_enter Try.func20, Try.ntmps20
  go_wp2_with (first | ((with_reducible refine gate_dst (N := 3) rfl ?_); refine ev_box rfl 25 (.tmp 1) rfl (cs.toArray) rfl ?_; intro g_s w1 hge hg hb; have HPn := Aside0.mk (HP.out.newB hb hg hge); clear HP; have HP := HPn; clear HPn; clear hge hg hb))
  refine (c_read0 HP.out (i + 1) g S HI.out HOK.out).mono ?_
  rintro e w2 ⟨v5, r5, rfl, d5, hpn⟩
  clear HP
  have HP := Aside0.mk hpn
  clear hpn
  go_wp2_with (first | ((with_reducible refine gate_dst (N := 23) rfl ?_); refine ev_load rfl 25 (.tmp 3) rfl g_s rfl (HP.out.blk 0 rfl) Try.underlying25 rfl (by rw [List.size_toArray, HL35.out]; kernel_rfl) ?_))
  by_cases hk : chk s = true
  rotate_left
  · have hk2 : chk s = false := by simpa using hk
    have HE := Aside0.mk (show saveE S s = 2 ∧ saveS S s = S from ⟨by unfold saveE; rw [if_pos hk2], by unfold saveS; rw [if_pos hk2]⟩)
    refine (CP0.out hk2 _).mono ?_; rintro e w3 ⟨rfl, hb⟩; have HPn := Aside0.mk (HP.out.call hb); clear HP; have HP := HPn; clear HPn; clear hb
    clear hk hk2
    go_wp2_with fail
    go_ret
    exact ⟨by rw [HE.out.1]; rfl, by rw [HE.out.2, HSELF.out]; exact HP.out.drop1⟩
  refine (CP8.out hk _).mono ?_; rintro e w3 ⟨g8, l8, rfl, ht1, ht2, ht3, hge, hg, hb⟩
  have HPn := Aside0.mk (HP.out.newB hb hg hge)
  have HP8 := Aside0.mk (And.intro ht1 (And.intro ht2 ht3))
  have HK := Aside0.mk hk
  clear HP hb hg hge ht1 ht2 ht3 hk
  have HP := HPn
  clear HPn
  obtain ⟨X, hX⟩ : ∃ z, packS s = z := ⟨_, rfl⟩
  rw [hX] at HP8 HPL
  rw [hX]
  have HX := Aside0.mk hX
  clear hX
  go_wp2_with fail
  refine (c_slots HP.out (i + 2) g S HI.out HOK.out).mono ?_
  rintro e w4 (⟨hne, rfl, hpn⟩ | ⟨h0, A, c, g0, g1, rfl, hpn⟩)
  · clear HP
    have HP := Aside0.mk hpn
    have HE := Aside0.mk (show saveE S s = slotsE S ∧ saveS S s = S from ⟨by unfold saveE; rw [if_neg (by rw [HK.out]; decide), if_pos hne], by unfold saveS; rw [if_neg (by rw [HK.out]; decide), if_pos hne]⟩)
    obtain ⟨q, hq⟩ : ∃ z, slotsE S = z := ⟨_, rfl⟩
    rw [hq] at hne HE ⊢
    have d0 : (q != 0) = true := bne_iff_ne.2 hne
    clear hne hpn hq
    go_wp2_with fail
    go_ret
    exact ⟨by rw [HE.out.1]; rfl, by rw [HE.out.2, HSELF.out]; exact HP.out.drop1.drop1⟩
  clear HP
  have HP := Aside0.mk hpn
  clear hpn
  have HS0 := Aside0.mk h0
  clear h0
  go_wp2_with fail
  refine (c_greatest S A c g0 g1 HP.out).mono ?_; rintro e w5 ⟨rfl, hpn⟩
  obtain ⟨bA, oA, rfl⟩ := rowA (hpn.row 0 rfl)
  clear HP
  have HP := Aside0.mk (show Hp w0 w5 (.row KP 88 w0.heap.size (.slice (some ⟨bA, oA, none⟩) 2 c) [ptrO g0 (sec S 0), ptrO g1 (sec S 1)] :: supR g1 (sec S 1) :: supR g0 (sec S 0) :: .blk g8 (.cells (u8s l8).toArray 5 (0, 0)) :: .blk g_s (.cells cs.toArray 25 (0, 0)) :: Rs) from hpn)
  clear hpn
  have HEV := Aside0.mk (show ∀ t o, lateD S s = t → otherD S = o → (t = true → saveE S s = 5 ∧ saveS S s = S) ∧ (t = false → saveE S s = (if writeE S o X ≠ 0 then writeE S o X else flushE (writeS S o X)) ∧ saveS S s = (if writeE S o X ≠ 0 then writeS S o X else flushS (writeS S o X))) from fun t o ht ho => by
    unfold saveE saveS
    rw [HX.out, ht, ho]
    simp only [HK.out, HS0.out, ne_eq, not_true_eq_false, if_false, Bool.true_eq_false]
    refine ⟨fun h => ?_, fun h => ?_⟩
    · rw [h]; exact ⟨rfl, rfl⟩
    · rw [h]; exact ⟨rfl, rfl⟩)
  have CW := Aside0.mk (fun (o : Int) (w : World) (HP : Hp w0 w (.row KP 88 w0.heap.size (.slice (some ⟨bA, oA, none⟩) 2 c) [ptrO g0 (sec S 0), ptrO g1 (sec S 1)] :: supR g1 (sec S 1) :: supR g0 (sec S 0) :: .blk g8 (.cells (u8s l8).toArray 5 (0, 0)) :: .blk g_s (.cells cs.toArray 25 (0, 0)) :: Rs)) =>
    D.c_write HP (i + 5) g S HI.out o (some ⟨g8, 0, none⟩) l8.length X (by rw [HPL.out]; decide) (fun w' Y h => C_preU (h.blk 3 rfl) HP8.out.2.2 HP8.out.1 HP8.out.2.1) (by have := HOK.out.2.2; omega))
  have CF := Aside0.mk (fun (o : Int) (w : World) (HP : Hp w0 w (Rs.set i (rDisk w0.heap.size g (writeS S o X)))) => c_flush HP i g (writeS S o X) (set_get _ HIL.out) (write_len S o X HOK.out.2.2))
  obtain ⟨B, hB⟩ : ∃ z, bestD S = z := ⟨_, rfl⟩
  rw [show bestB (sec S 0) (sec S 1) = B from hB]
  have hbc := HBC.out
  rw [hB] at hbc
  have HBV := Aside0.mk hB
  clear hB HBC
  rcases hbc with rfl | ⟨rfl, hs⟩ | ⟨rfl, hs⟩
  · have HEE := Aside0.mk ((HEV.out false 0 (by unfold lateD; rw [HBV.out]; rfl) (by unfold otherD; rw [HBV.out]; rfl)).2 rfl)
    clear HEV
    go_wp2_with fail
    refine (CW.out 0 _ HP.out).mono ?_; rintro e w6 ⟨rfl, hpn⟩
    clear HP CW
    have HP := Aside0.mk (Hp.dropN [_, _, _, _, _] (show Hp w0 w6 (_ :: _ :: _ :: _ :: _ :: Rs.set i (rDisk w0.heap.size g (writeS S 0 X))) from hpn))
    clear hpn
    obtain ⟨q, hq⟩ : ∃ z, writeE S 0 X = z := ⟨_, rfl⟩
    rw [hq] at HEE ⊢
    clear hq
    by_cases hq0 : q = 0
    rotate_left
    · have d0 : (q != 0) = true := bne_iff_ne.2 hq0
      have HE := Aside0.mk (show saveE S s = q ∧ saveS S s = writeS S 0 X from ⟨by rw [HEE.out.1, if_pos hq0], by rw [HEE.out.2, if_pos hq0]⟩)
      clear hq0
      go_wp2_with fail
      go_ret
      exact ⟨by rw [HE.out.1]; rfl, by rw [HE.out.2]; exact HP.out⟩
    subst hq0
    have HE := Aside0.mk (show saveE S s = flushE (writeS S 0 X) ∧ saveS S s = flushS (writeS S 0 X) from ⟨by rw [HEE.out.1, if_neg (by decide)], by rw [HEE.out.2, if_neg (by decide)]⟩)
    go_wp2_with fail
    refine (CF.out 0 _ HP.out).mono ?_; rintro e w7 ⟨rfl, hpn⟩
    rw [List.set_set] at hpn
    have HPn := Aside0.mk hpn
    clear HP CF hpn
    go_wp2_with fail
    go_ret
    exact ⟨by rw [HE.out.1]; rfl, by rw [HE.out.2]; exact HPn.out⟩
  · have HLT := Aside0.mk (show lateD S s = decide (s.num ≤ (unpS (sec S 0)).num) from by unfold lateD; rw [HBV.out]; simp)
    have HN0 := Aside0.mk (c25_0 (unpS (sec S 0)))
    have HPT := Aside0.mk (ptrO_t (g := g0) hs)
    clear hs
    obtain ⟨n, hn⟩ : ∃ z, (unpS (sec S 0)).num = z := ⟨_, rfl⟩
    rw [hn] at HN0 HLT
    clear hn
    obtain ⟨m, hm⟩ : ∃ z, s.num = z := ⟨_, rfl⟩
    rw [hm] at HN HLT
    clear hm
    obtain ⟨t, ht⟩ : ∃ z, decide (m ≤ n) = z := ⟨_, rfl⟩
    rw [ht] at HLT
    have HEE := Aside0.mk (HEV.out t 1 HLT.out (by unfold otherD; rw [HBV.out]; rfl))
    have hge : decide (n ≥ m) = t := ht
    clear HEV HLT ht
    go_wp2_with fail
    refine held_named (S := (fun w' => w'.cell? ⟨bA, oA, none⟩ = some (.pointer (some ⟨g0, 0, none⟩)) ∧ w'.cell? ⟨g0, 0, none⟩ = some (.int .i64 n) ∧ w'.cell? ⟨g_s, 0, none⟩ = some (.int .i64 m))) (by kernel_rfl) (fun wd0 hwd0 => ?_)
    have HPn := Aside0.mk (HP.out.drewN 1)
    rw [← World.drew_is_drewN, hwd0] at HPn
    clear HP hwd0
    have HP := HPn
    clear HPn
    refine ⟨by (try dsimp only); (refine ⟨?_, cell_in (HP.out.blk 2 rfl) 0 HN0.out, cell_in (HP.out.blk 4 rfl) 0 HN.out⟩; have h := (rowP (HP.out.row 0 rfl)).1; rw [HPT.out] at h; exact h), fun hHeld => ?_⟩
    refine wpAnyH_take (i := 0) (oi := ({ dst := (some 43), op := (Op.move (Operand.tmp 9)), type := 84, pos := "super.go:151", after := #[], guard := none } : Oper)) (v := ?_) rfl (by kernel_rfl) (by kernel_rfl) (by kernel_rfl) (fun _ _ _ h => h) (Or.inl ⟨by rfl, ?_⟩) hHeld ?_
    rotate_left
    · intro w_ hSw; (try dsimp only at hSw); go_simp; try (with_reducible rfl)
    try simp only [Act.put, List.setIfInBounds_toArray, List.set_cons_zero, List.set_cons_succ]
    refine wpAnyH_take (i := 1) (oi := ({ dst := (some 44), op := (Op.move (Operand.tmp 12)), type := 3, pos := "super.go:151", after := #[], guard := none } : Oper)) (v := ?_) rfl (by kernel_rfl) (by kernel_rfl) (by kernel_rfl) (fun _ _ _ h => h) (Or.inl ⟨by rfl, ?_⟩) hHeld ?_
    rotate_left
    · intro w_ hSw; (try dsimp only at hSw); go_simp; try (with_reducible rfl)
    try simp only [Act.put, List.setIfInBounds_toArray, List.set_cons_zero, List.set_cons_succ]
    refine wpAnyH_take (i := 2) (oi := ({ dst := (some 45), op := (Op.indexAddr 84 (Operand.tmp 43) (Operand.tmp 44)), type := 0, pos := "super.go:151", after := #[{ on := 0, ground := Ground.data }, { on := 1, ground := Ground.data }], guard := none } : Oper)) (v := ?_) rfl (by kernel_rfl) (by kernel_rfl) (by kernel_rfl) (fun _ _ _ h => h) (Or.inl ⟨by rfl, ?_⟩) hHeld ?_
    rotate_left
    · intro w_ hSw; (try dsimp only at hSw); go_simp; try (with_reducible rfl)
    try simp only [Act.put, List.setIfInBounds_toArray, List.set_cons_zero, List.set_cons_succ]
    refine wpAnyH_take (i := 3) (oi := ({ dst := (some 46), op := (Op.load 88 (Operand.tmp 45)), type := 88, pos := "super.go:151", after := #[{ on := 2, ground := Ground.data }], guard := none } : Oper)) (v := ?_) rfl (by kernel_rfl) (by kernel_rfl) (by kernel_rfl) (fun _ _ _ h => h) (Or.inl ⟨by rfl, ?_⟩) hHeld ?_
    rotate_left
    · intro w_ hSw; (try dsimp only at hSw); go_simp; try (with_reducible rfl)
    try simp only [Act.put, List.setIfInBounds_toArray, List.set_cons_zero, List.set_cons_succ]
    refine wpAnyH_take (i := 4) (oi := ({ dst := (some 47), op := (Op.nilCheck (Operand.tmp 46)), type := 0, pos := "super.go:151", after := #[{ on := 3, ground := Ground.data }], guard := none } : Oper)) (v := ?_) rfl (by kernel_rfl) (by kernel_rfl) (by kernel_rfl) (fun _ _ _ h => h) (Or.inl ⟨by rfl, ?_⟩) hHeld ?_
    rotate_left
    · intro w_ hSw; (try dsimp only at hSw); go_simp; try (with_reducible rfl)
    try simp only [Act.put, List.setIfInBounds_toArray, List.set_cons_zero, List.set_cons_succ]
    refine wpAnyH_take (i := 5) (oi := ({ dst := (some 48), op := (Op.fieldAddr 25 (Operand.tmp 47) 0), type := 0, pos := "super.go:151", after := #[{ on := 4, ground := Ground.data }], guard := none } : Oper)) (v := ?_) rfl (by kernel_rfl) (by kernel_rfl) (by kernel_rfl) (fun _ _ _ h => h) (Or.inl ⟨by rfl, ?_⟩) hHeld ?_
    rotate_left
    · intro w_ hSw; (try dsimp only at hSw); go_simp; try (with_reducible rfl)
    try simp only [Act.put, List.setIfInBounds_toArray, List.set_cons_zero, List.set_cons_succ]
    refine wpAnyH_take (i := 6) (oi := ({ dst := (some 49), op := (Op.load 3 (Operand.tmp 48)), type := 3, pos := "super.go:151", after := #[{ on := 5, ground := Ground.data }], guard := none } : Oper)) (v := ?_) rfl (by kernel_rfl) (by kernel_rfl) (by kernel_rfl) (fun _ _ _ h => h) (Or.inl ⟨by rfl, ?_⟩) hHeld ?_
    rotate_left
    · intro w_ hSw; (try dsimp only at hSw); go_simp; try (with_reducible rfl)
    try simp only [Act.put, List.setIfInBounds_toArray, List.set_cons_zero, List.set_cons_succ]
    refine wpAnyH_take (i := 7) (oi := ({ dst := (some 50), op := (Op.fieldAddr 25 (Operand.tmp 3) 0), type := 0, pos := "super.go:151", after := #[], guard := none } : Oper)) (v := ?_) rfl (by kernel_rfl) (by kernel_rfl) (by kernel_rfl) (fun _ _ _ h => h) (Or.inl ⟨by rfl, ?_⟩) hHeld ?_
    rotate_left
    · intro w_ hSw; (try dsimp only at hSw); go_simp; try (with_reducible rfl)
    try simp only [Act.put, List.setIfInBounds_toArray, List.set_cons_zero, List.set_cons_succ]
    refine wpAnyH_take (i := 8) (oi := ({ dst := (some 51), op := (Op.load 3 (Operand.tmp 50)), type := 3, pos := "super.go:151", after := #[{ on := 7, ground := Ground.data }], guard := none } : Oper)) (v := ?_) rfl (by kernel_rfl) (by kernel_rfl) (by kernel_rfl) (fun _ _ _ h => h) (Or.inl ⟨by rfl, ?_⟩) hHeld ?_
    rotate_left
    · intro w_ hSw; (try dsimp only at hSw); go_simp; try (with_reducible rfl)
    try simp only [Act.put, List.setIfInBounds_toArray, List.set_cons_zero, List.set_cons_succ]
    refine wpAnyH_take (i := 9) (oi := ({ dst := (some 52), op := (Op.binOp BinOp.geq 3 (Operand.tmp 49) (Operand.tmp 51) 3), type := 4, pos := "super.go:151", after := #[{ on := 6, ground := Ground.data }, { on := 8, ground := Ground.data }], guard := none } : Oper)) (v := ?_) rfl (by kernel_rfl) (by kernel_rfl) (by kernel_rfl) (fun _ _ _ h => h) (Or.inl ⟨by rfl, ?_⟩) hHeld ?_
    rotate_left
    · intro w_ hSw; (try dsimp only at hSw); go_simp; try (with_reducible rfl)
    try simp only [Act.put, List.setIfInBounds_toArray, List.set_cons_zero, List.set_cons_succ]
    refine wpAnyH_done (by kernel_rfl) ?_ _
    clear hHeld
    cases t
    · have HEn := Aside0.mk (HEE.out.2 rfl)
      clear HEE
      have HEE := HEn
      clear HEn
      go_wp2_with fail
      refine (CW.out 1 _ HP.out).mono ?_; rintro e w6 ⟨rfl, hpn⟩
      clear HP CW
      have HP := Aside0.mk (Hp.dropN [_, _, _, _, _] (show Hp w0 w6 (_ :: _ :: _ :: _ :: _ :: Rs.set i (rDisk w0.heap.size g (writeS S 1 X))) from hpn))
      clear hpn
      obtain ⟨q, hq⟩ : ∃ z, writeE S 1 X = z := ⟨_, rfl⟩
      rw [hq] at HEE ⊢
      clear hq
      by_cases hq0 : q = 0
      rotate_left
      · have d0 : (q != 0) = true := bne_iff_ne.2 hq0
        have HE := Aside0.mk (show saveE S s = q ∧ saveS S s = writeS S 1 X from ⟨by rw [HEE.out.1, if_pos hq0], by rw [HEE.out.2, if_pos hq0]⟩)
        clear hq0
        go_wp2_with fail
        go_ret
        exact ⟨by rw [HE.out.1]; rfl, by rw [HE.out.2]; exact HP.out⟩
      subst hq0
      have HE := Aside0.mk (show saveE S s = flushE (writeS S 1 X) ∧ saveS S s = flushS (writeS S 1 X) from ⟨by rw [HEE.out.1, if_neg (by decide)], by rw [HEE.out.2, if_neg (by decide)]⟩)
      go_wp2_with fail
      refine (CF.out 1 _ HP.out).mono ?_; rintro e w7 ⟨rfl, hpn⟩
      rw [List.set_set] at hpn
      have HPn := Aside0.mk hpn
      clear HP CF hpn
      go_wp2_with fail
      go_ret
      exact ⟨by rw [HE.out.1]; rfl, by rw [HE.out.2]; exact HPn.out⟩
    · have HE := Aside0.mk (HEE.out.1 rfl)
      clear HEE
      go_wp2_with fail
      go_ret
      exact ⟨by rw [HE.out.1]; rfl, by rw [HE.out.2, HSELF.out]; exact Hp.dropN [_, _, _, _, _] HP.out⟩
  · have HLT := Aside0.mk (show lateD S s = decide (s.num ≤ (unpS (sec S 1)).num) from by unfold lateD; rw [HBV.out]; simp)
    have HN1 := Aside0.mk (c25_0 (unpS (sec S 1)))
    have HPT := Aside0.mk (ptrO_t (g := g1) hs)
    clear hs
    obtain ⟨n, hn⟩ : ∃ z, (unpS (sec S 1)).num = z := ⟨_, rfl⟩
    rw [hn] at HN1 HLT
    clear hn
    obtain ⟨m, hm⟩ : ∃ z, s.num = z := ⟨_, rfl⟩
    rw [hm] at HN HLT
    clear hm
    obtain ⟨t, ht⟩ : ∃ z, decide (m ≤ n) = z := ⟨_, rfl⟩
    rw [ht] at HLT
    have HEE := Aside0.mk (HEV.out t 0 HLT.out (by unfold otherD; rw [HBV.out]; rfl))
    have hge : decide (n ≥ m) = t := ht
    clear HEV HLT ht
    go_wp2_with fail
    refine held_named (S := (fun w' => w'.cell? ⟨bA, oA + 1, none⟩ = some (.pointer (some ⟨g1, 0, none⟩)) ∧ w'.cell? ⟨g1, 0, none⟩ = some (.int .i64 n) ∧ w'.cell? ⟨g_s, 0, none⟩ = some (.int .i64 m))) (by kernel_rfl) (fun wd0 hwd0 => ?_)
    have HPn := Aside0.mk (HP.out.drewN 1)
    rw [← World.drew_is_drewN, hwd0] at HPn
    clear HP hwd0
    have HP := HPn
    clear HPn
    refine ⟨by (try dsimp only); (refine ⟨?_, cell_in (HP.out.blk 1 rfl) 0 HN1.out, cell_in (HP.out.blk 4 rfl) 0 HN.out⟩; have h := (rowP (HP.out.row 0 rfl)).2; rw [HPT.out] at h; exact h), fun hHeld => ?_⟩
    refine wpAnyH_take (i := 0) (oi := ({ dst := (some 43), op := (Op.move (Operand.tmp 9)), type := 84, pos := "super.go:151", after := #[], guard := none } : Oper)) (v := ?_) rfl (by kernel_rfl) (by kernel_rfl) (by kernel_rfl) (fun _ _ _ h => h) (Or.inl ⟨by rfl, ?_⟩) hHeld ?_
    rotate_left
    · intro w_ hSw; (try dsimp only at hSw); go_simp; try (with_reducible rfl)
    try simp only [Act.put, List.setIfInBounds_toArray, List.set_cons_zero, List.set_cons_succ]
    refine wpAnyH_take (i := 1) (oi := ({ dst := (some 44), op := (Op.move (Operand.tmp 12)), type := 3, pos := "super.go:151", after := #[], guard := none } : Oper)) (v := ?_) rfl (by kernel_rfl) (by kernel_rfl) (by kernel_rfl) (fun _ _ _ h => h) (Or.inl ⟨by rfl, ?_⟩) hHeld ?_
    rotate_left
    · intro w_ hSw; (try dsimp only at hSw); go_simp; try (with_reducible rfl)
    try simp only [Act.put, List.setIfInBounds_toArray, List.set_cons_zero, List.set_cons_succ]
    refine wpAnyH_take (i := 2) (oi := ({ dst := (some 45), op := (Op.indexAddr 84 (Operand.tmp 43) (Operand.tmp 44)), type := 0, pos := "super.go:151", after := #[{ on := 0, ground := Ground.data }, { on := 1, ground := Ground.data }], guard := none } : Oper)) (v := ?_) rfl (by kernel_rfl) (by kernel_rfl) (by kernel_rfl) (fun _ _ _ h => h) (Or.inl ⟨by rfl, ?_⟩) hHeld ?_
    rotate_left
    · intro w_ hSw; (try dsimp only at hSw); go_simp; try (with_reducible rfl)
    try simp only [Act.put, List.setIfInBounds_toArray, List.set_cons_zero, List.set_cons_succ]
    refine wpAnyH_take (i := 3) (oi := ({ dst := (some 46), op := (Op.load 88 (Operand.tmp 45)), type := 88, pos := "super.go:151", after := #[{ on := 2, ground := Ground.data }], guard := none } : Oper)) (v := ?_) rfl (by kernel_rfl) (by kernel_rfl) (by kernel_rfl) (fun _ _ _ h => h) (Or.inl ⟨by rfl, ?_⟩) hHeld ?_
    rotate_left
    · intro w_ hSw; (try dsimp only at hSw); go_simp; try (with_reducible rfl)
    try simp only [Act.put, List.setIfInBounds_toArray, List.set_cons_zero, List.set_cons_succ]
    refine wpAnyH_take (i := 4) (oi := ({ dst := (some 47), op := (Op.nilCheck (Operand.tmp 46)), type := 0, pos := "super.go:151", after := #[{ on := 3, ground := Ground.data }], guard := none } : Oper)) (v := ?_) rfl (by kernel_rfl) (by kernel_rfl) (by kernel_rfl) (fun _ _ _ h => h) (Or.inl ⟨by rfl, ?_⟩) hHeld ?_
    rotate_left
    · intro w_ hSw; (try dsimp only at hSw); go_simp; try (with_reducible rfl)
    try simp only [Act.put, List.setIfInBounds_toArray, List.set_cons_zero, List.set_cons_succ]
    refine wpAnyH_take (i := 5) (oi := ({ dst := (some 48), op := (Op.fieldAddr 25 (Operand.tmp 47) 0), type := 0, pos := "super.go:151", after := #[{ on := 4, ground := Ground.data }], guard := none } : Oper)) (v := ?_) rfl (by kernel_rfl) (by kernel_rfl) (by kernel_rfl) (fun _ _ _ h => h) (Or.inl ⟨by rfl, ?_⟩) hHeld ?_
    rotate_left
    · intro w_ hSw; (try dsimp only at hSw); go_simp; try (with_reducible rfl)
    try simp only [Act.put, List.setIfInBounds_toArray, List.set_cons_zero, List.set_cons_succ]
    refine wpAnyH_take (i := 6) (oi := ({ dst := (some 49), op := (Op.load 3 (Operand.tmp 48)), type := 3, pos := "super.go:151", after := #[{ on := 5, ground := Ground.data }], guard := none } : Oper)) (v := ?_) rfl (by kernel_rfl) (by kernel_rfl) (by kernel_rfl) (fun _ _ _ h => h) (Or.inl ⟨by rfl, ?_⟩) hHeld ?_
    rotate_left
    · intro w_ hSw; (try dsimp only at hSw); go_simp; try (with_reducible rfl)
    try simp only [Act.put, List.setIfInBounds_toArray, List.set_cons_zero, List.set_cons_succ]
    refine wpAnyH_take (i := 7) (oi := ({ dst := (some 50), op := (Op.fieldAddr 25 (Operand.tmp 3) 0), type := 0, pos := "super.go:151", after := #[], guard := none } : Oper)) (v := ?_) rfl (by kernel_rfl) (by kernel_rfl) (by kernel_rfl) (fun _ _ _ h => h) (Or.inl ⟨by rfl, ?_⟩) hHeld ?_
    rotate_left
    · intro w_ hSw; (try dsimp only at hSw); go_simp; try (with_reducible rfl)
    try simp only [Act.put, List.setIfInBounds_toArray, List.set_cons_zero, List.set_cons_succ]
    refine wpAnyH_take (i := 8) (oi := ({ dst := (some 51), op := (Op.load 3 (Operand.tmp 50)), type := 3, pos := "super.go:151", after := #[{ on := 7, ground := Ground.data }], guard := none } : Oper)) (v := ?_) rfl (by kernel_rfl) (by kernel_rfl) (by kernel_rfl) (fun _ _ _ h => h) (Or.inl ⟨by rfl, ?_⟩) hHeld ?_
    rotate_left
    · intro w_ hSw; (try dsimp only at hSw); go_simp; try (with_reducible rfl)
    try simp only [Act.put, List.setIfInBounds_toArray, List.set_cons_zero, List.set_cons_succ]
    refine wpAnyH_take (i := 9) (oi := ({ dst := (some 52), op := (Op.binOp BinOp.geq 3 (Operand.tmp 49) (Operand.tmp 51) 3), type := 4, pos := "super.go:151", after := #[{ on := 6, ground := Ground.data }, { on := 8, ground := Ground.data }], guard := none } : Oper)) (v := ?_) rfl (by kernel_rfl) (by kernel_rfl) (by kernel_rfl) (fun _ _ _ h => h) (Or.inl ⟨by rfl, ?_⟩) hHeld ?_
    rotate_left
    · intro w_ hSw; (try dsimp only at hSw); go_simp; try (with_reducible rfl)
    try simp only [Act.put, List.setIfInBounds_toArray, List.set_cons_zero, List.set_cons_succ]
    refine wpAnyH_done (by kernel_rfl) ?_ _
    clear hHeld
    cases t
    · have HEn := Aside0.mk (HEE.out.2 rfl)
      clear HEE
      have HEE := HEn
      clear HEn
      go_wp2_with fail
      refine (CW.out 0 _ HP.out).mono ?_; rintro e w6 ⟨rfl, hpn⟩
      clear HP CW
      have HP := Aside0.mk (Hp.dropN [_, _, _, _, _] (show Hp w0 w6 (_ :: _ :: _ :: _ :: _ :: Rs.set i (rDisk w0.heap.size g (writeS S 0 X))) from hpn))
      clear hpn
      obtain ⟨q, hq⟩ : ∃ z, writeE S 0 X = z := ⟨_, rfl⟩
      rw [hq] at HEE ⊢
      clear hq
      by_cases hq0 : q = 0
      rotate_left
      · have d0 : (q != 0) = true := bne_iff_ne.2 hq0
        have HE := Aside0.mk (show saveE S s = q ∧ saveS S s = writeS S 0 X from ⟨by rw [HEE.out.1, if_pos hq0], by rw [HEE.out.2, if_pos hq0]⟩)
        clear hq0
        go_wp2_with fail
        go_ret
        exact ⟨by rw [HE.out.1]; rfl, by rw [HE.out.2]; exact HP.out⟩
      subst hq0
      have HE := Aside0.mk (show saveE S s = flushE (writeS S 0 X) ∧ saveS S s = flushS (writeS S 0 X) from ⟨by rw [HEE.out.1, if_neg (by decide)], by rw [HEE.out.2, if_neg (by decide)]⟩)
      go_wp2_with fail
      refine (CF.out 0 _ HP.out).mono ?_; rintro e w7 ⟨rfl, hpn⟩
      rw [List.set_set] at hpn
      have HPn := Aside0.mk hpn
      clear HP CF hpn
      go_wp2_with fail
      go_ret
      exact ⟨by rw [HE.out.1]; rfl, by rw [HE.out.2]; exact HPn.out⟩
    · have HE := Aside0.mk (HEE.out.1 rfl)
      clear HEE
      go_wp2_with fail
      go_ret
      exact ⟨by rw [HE.out.1]; rfl, by rw [HE.out.2, HSELF.out]; exact Hp.dropN [_, _, _, _, _] HP.out⟩
end Go.Proofs.Ytgflghnbpbiakaa.Su
