import Derived.Test.YtpnjbogpooejhaaK5
import Derived.Lib.Bytes
namespace Go.Proofs.Ytpnjbogpooejhaa.H
open Go.RowKit Go.Proofs.Ytpnjbogpooejhaa.XH Go.Proofs.YtpnjbogpooejhaaW.PrintWords Go.Proofs.YtpnjbogpooejhaaW.PrintLast Go.Proofs.YtpnjbogpooejhaaW.PrintMore Go.Proofs.YtpnjbogpooejhaaXe Go.Proofs.YtpnjbogpooejhaaXs
set_option linter.unusedVariables false
set_option linter.unusedSimpArgs false
attribute [local go_sem ↓] Go.wp_at_zero Go.wp_at_succ
attribute [local go_sem] valUpon
attribute [local go_sem ↓ high] bn23
attribute [local go_sem high] BN23.z
/-- the order of names -/
def ltI : List Int → List Int → Bool
  | a :: x, b :: y => if a = b then ltI x y else decide (a < b)
  | _, _ => false
/-- is the first of those from place i on that differ less? (going down) -/
theorem lt_drop (a b : List Int) (h : a.length = b.length) (i : Nat) (hi : i < a.length) : ltI (a.drop i) (b.drop i) = if rd a i = rd b i then ltI (a.drop (i + 1)) (b.drop (i + 1)) else decide (rd a i < rd b i) := by
  have hb : i < b.length := by omega
  rw [List.drop_eq_getElem_cons hi, List.drop_eq_getElem_cons hb]
  simp [ltI, rd, hi, hb]
def tx2 (x : Int) : List Int := [dgI (x / 16), dgI (x % 16)]
theorem txI_flat (id : List Int) (h : id.length = 32) : txI id = id.flatMap tx2 := by
  match id, h with
  | [x0, x1, x2, x3, x4, x5, x6, x7, x8, x9, x10, x11, x12, x13, x14, x15, x16, x17, x18, x19, x20, x21, x22, x23, x24, x25, x26, x27, x28, x29, x30, x31], _ => rfl
theorem dg_inj (m n : Int) (h1 : 0 ≤ m) (h2 : m < 16) (h3 : 0 ≤ n) (h4 : n < 16) : (dgI m = dgI n ↔ m = n) ∧ (dgI m < dgI n ↔ m < n) := by
  have h16 : ∀ i j : Fin 16, (dgI (i.val : Int) = dgI (j.val : Int) ↔ (i.val : Int) = j.val) ∧ (dgI (i.val : Int) < dgI (j.val : Int) ↔ (i.val : Int) < j.val) := by decide +kernel
  have := h16 ⟨m.toNat, by omega⟩ ⟨n.toNat, by omega⟩
  rwa [show (((⟨m.toNat, by omega⟩ : Fin 16).val : Nat) : Int) = m by show ((m.toNat : Nat) : Int) = m; omega, show (((⟨n.toNat, by omega⟩ : Fin 16).val : Nat) : Int) = n by show ((n.toNat : Nat) : Int) = n; omega] at this
theorem dg_byte (m : Int) : 0 ≤ dgI m ∧ dgI m ≤ 255 := bt_range DG m
theorem tx2_eq (x y : Int) (hx : 0 ≤ x ∧ x < 256) (hy : 0 ≤ y ∧ y < 256) : tx2 x = tx2 y ↔ x = y := by
  unfold tx2
  have h1 := (dg_inj (x / 16) (y / 16) (by omega) (by omega) (by omega) (by omega)).1
  have h2 := (dg_inj (x % 16) (y % 16) (by omega) (by omega) (by omega) (by omega)).1
  simp only [List.cons.injEq, and_true, h1, h2]
  omega
theorem flat_eq : ∀ (a b : List Int), a.length = b.length → (∀ x ∈ a, 0 ≤ x ∧ x < 256) → (∀ x ∈ b, 0 ≤ x ∧ x < 256) → (a.flatMap tx2 = b.flatMap tx2 ↔ a = b)
  | [], [], _, _, _ => by simp
  | x :: a, y :: b, h, ha, hb => by
    have ih := flat_eq a b (by simpa using h) (fun z hz => ha z (by simp [hz])) (fun z hz => hb z (by simp [hz]))
    have h2 := tx2_eq x y (ha x (by simp)) (hb y (by simp))
    rw [List.flatMap_cons, List.flatMap_cons, List.cons.injEq, ← ih, ← h2]
    constructor
    · intro h; exact List.append_inj h (by simp [tx2])
    · rintro ⟨h3, h4⟩; rw [h3, h4]
  | [], _ :: _, h, _, _ => by simp at h
  | _ :: _, [], h, _, _ => by simp at h
theorem flat_lt : ∀ (a b : List Int), a.length = b.length → (∀ x ∈ a, 0 ≤ x ∧ x < 256) → (∀ x ∈ b, 0 ≤ x ∧ x < 256) → ltI (a.flatMap tx2) (b.flatMap tx2) = ltI a b
  | [], [], _, _, _ => rfl
  | x :: a, y :: b, h, ha, hb => by
    have ih := flat_lt a b (by simpa using h) (fun z hz => ha z (by simp [hz])) (fun z hz => hb z (by simp [hz]))
    have hx := ha x (by simp)
    have hy := hb y (by simp)
    have h1 := dg_inj (x / 16) (y / 16) (by omega) (by omega) (by omega) (by omega)
    have h2 := dg_inj (x % 16) (y % 16) (by omega) (by omega) (by omega) (by omega)
    rw [List.flatMap_cons, List.flatMap_cons]
    simp only [tx2, List.cons_append, List.nil_append, ltI, h1.1, h2.1, h1.2, h2.2, ih]
    by_cases e1 : x / 16 = y / 16
    · rw [if_pos e1]
      by_cases e2 : x % 16 = y % 16
      · rw [if_pos e2, if_pos (by omega)]
      · rw [if_neg e2, if_neg (by omega)]
        congr 1
        rw [eq_iff_iff]
        omega
    · rw [if_neg e1, if_neg (by omega)]
      congr 1
      rw [eq_iff_iff]
      omega
  | [], _ :: _, h, _, _ => by simp at h
  | _ :: _, [], h, _, _ => by simp at h
theorem u8_inj (x y : Int) (hx : 0 ≤ x ∧ x < 256) (hy : 0 ≤ y ∧ y < 256) : (UInt8.ofNat x.toNat = UInt8.ofNat y.toNat ↔ x = y) ∧ (UInt8.ofNat x.toNat < UInt8.ofNat y.toNat ↔ x < y) := by
  rw [← UInt8.toNat_inj, UInt8.lt_iff_toNat_lt]
  simp only [UInt8.toNat_ofNat']
  omega
theorem less_bytes : ∀ (x y : List Int), x.length = y.length → (∀ z ∈ x, 0 ≤ z ∧ z < 256) → (∀ z ∈ y, 0 ≤ z ∧ z < 256) → Op.bytesLess (Lib.bytesOf x) (Lib.bytesOf y) = ltI x y ∧ (Lib.bytesOf x = Lib.bytesOf y ↔ x = y)
  | [], [], _, _, _ => by simp [Lib.bytesOf, Op.bytesLess, ltI]
  | a :: x, b :: y, h, ha, hb => by
    have ih := less_bytes x y (by simpa using h) (fun z hz => ha z (by simp [hz])) (fun z hz => hb z (by simp [hz]))
    have h1 := u8_inj a b (ha a (by simp)) (hb b (by simp))
    refine ⟨?_, ?_⟩
    · show (decide (UInt8.ofNat a.toNat < UInt8.ofNat b.toNat) || (UInt8.ofNat a.toNat == UInt8.ofNat b.toNat && Op.bytesLess (Lib.bytesOf x) (Lib.bytesOf y))) = if a = b then ltI x y else decide (a < b)
      rw [ih.1]
      by_cases e : a = b
      · subst e; simp
      · have h2 : (UInt8.ofNat a.toNat == UInt8.ofNat b.toNat) = false := beq_eq_false_iff_ne.2 fun h3 => e (h1.1.1 h3)
        rw [if_neg e, h2]
        simp [h1.2]
    · show UInt8.ofNat a.toNat :: Lib.bytesOf x = UInt8.ofNat b.toNat :: Lib.bytesOf y ↔ _
      rw [List.cons.injEq, List.cons.injEq, ih.2, h1.1]
  | [], _ :: _, h, _, _ => by simp at h
  | _ :: _, [], h, _, _ => by simp at h
theorem tx_byte (id : List Int) : ∀ x ∈ txI id, 0 ≤ x ∧ x < 256 := by
  intro x hx
  obtain ⟨q, _, rfl⟩ := List.mem_map.1 hx
  have := dg_byte (nibI id q)
  omega
theorem rank_less (a b : List Int) (hla : a.length = 32) (hba : ∀ x ∈ a, 0 ≤ x ∧ x < 256) (hlb : b.length = 32) (hbb : ∀ x ∈ b, 0 ≤ x ∧ x < 256) : Op.bytesLess (strOfNums (txI a)).toList (strOfNums (txI b)).toList = ltI a b ∧ ((strOfNums (txI a)).toList == (strOfNums (txI b)).toList) = decide (a = b) := by
  have h := less_bytes (txI a) (txI b) (by rw [txI_len, txI_len]) (tx_byte a) (tx_byte b)
  rw [Lib.strOfNums_toList, Lib.strOfNums_toList]
  refine ⟨?_, ?_⟩
  · rw [h.1, txI_flat a hla, txI_flat b hlb]; exact flat_lt a b (by omega) hba hbb
  · rw [Bool.eq_iff_iff, beq_iff_eq, h.2, txI_flat a hla, txI_flat b hlb, flat_eq a b (by omega) hba hbb, decide_eq_true_eq]
set_option maxHeartbeats 8000000 in
set_option maxRecDepth 100000 in
theorem hashRank_law (a : List Int) (hla : a.length = 32) (hba : ∀ x ∈ a, 0 ≤ x ∧ x < 256) (b : List Int) (hlb : b.length = 32) (hbb : ∀ x ∈ b, 0 ≤ x ∧ x < 256) (w : World) : Calls Try.prog 5 #[.agg (u8s a).toArray, .agg (u8s b).toArray] w fun e w' => e = .returned (.bool true) ∧ Below w.heap.size w w' := by
  have HLA := Aside0.mk hla
  have HLB := Aside0.mk hlb
  have HP := Aside0.mk (Hp.start w)
  have CA := Aside0.mk (fun w => c_text a hla hba w)
  have CB := Aside0.mk (fun w => c_text b hlb hbb w)
  obtain ⟨ta, hta⟩ : ∃ t, strOfNums (txI a) = t := ⟨_, rfl⟩
  obtain ⟨tb, htb⟩ : ∃ t, strOfNums (txI b) = t := ⟨_, rfl⟩
  rw [hta] at CA
  rw [htb] at CB
  have HTX := Aside0.mk (And.intro hta htb)
  have HBB := Aside0.mk (And.intro hba hbb)
  clear hla hba hlb hbb hta htb
  go_enter Try.func5, Try.ntmps5
  go_wp2_with (first | ((with_reducible refine gate_dst (N := 2) rfl ?_); refine ev_box rfl 23 (.tmp 0) rfl ((u8s a).toArray) rfl ?_; intro g_a wn1 hge hg hb; have HPn := Aside0.mk (HP.out.newB hb hg hge); clear HP; have HP := HPn; clear HPn; clear hge hg hb) | ((with_reducible refine gate_dst (N := 3) rfl ?_); refine ev_box rfl 23 (.tmp 1) rfl ((u8s b).toArray) rfl ?_; intro g_b wn2 hge hg hb; have HPn := Aside0.mk (HP.out.newB hb hg hge); clear HP; have HP := HPn; clear HPn; clear hge hg hb))
  (with_reducible refine (c_awake _).mono ?_); rintro e wn3 ⟨rfl, hb⟩; have HPn := Aside0.mk (HP.out.call hb); clear HP; have HP := HPn; clear HPn; clear hb
  go_wp2_with fail
  have HP1 := Aside0.mk (show Hp w wn3 [.blk g_b (.cells (u8s b).toArray 23 (0, 0)), .blk g_a (.cells (u8s a).toArray 23 (0, 0))] from HP.out)
  clear HP
  go_loopg [6, 7] 32 (fun kq v6 v7 w' => ∃ (x : Int), v6 = .bool (ltI (a.drop kq) (b.drop kq)) ∧ v7 = .int .i64 x ∧ Aside0 (kq ≤ 32) ∧ Aside0 (x + 1 = (kq : Int)) ∧ Aside0 (Hp w w' [.blk g_b (.cells (u8s b).toArray 23 (0, 0)), .blk g_a (.cells (u8s a).toArray 23 (0, 0))]))
  case atStart => exact ⟨31, by rw [List.drop_eq_nil_of_le (by rw [HLA.out]; omega), List.drop_eq_nil_of_le (by rw [HLB.out]; omega)]; rfl, rfl, ⟨Nat.le_refl _⟩, ⟨rfl⟩, HP1⟩
  clear HP1
  obtain ⟨x, rfl, rfl, HK, HX, HP⟩ := hrel
  have hx := HX.out
  have hk := HK.out
  by_cases c1 : 0 < gk
  · obtain ⟨i, rfl⟩ : ∃ i, gk = i + 1 := ⟨gk - 1, by omega⟩
    obtain rfl : x = (i : Int) := by omega
    have d1 : decide ((i : Int) ≥ 0) = true := decide_eq_true (by omega)
    have p0 : 0 ≤ (i : Int) := by omega
    have q0 : (i : Int) < 32 := by omega
    have em := i64k (x := (i : Int) - 1) rfl (by omega)
    obtain ⟨r, hr⟩ : ∃ r, ltI (a.drop (i + 1)) (b.drop (i + 1)) = r := ⟨_, rfl⟩
    have hstep := lt_drop a b (by rw [HLA.out, HLB.out]) i (by rw [HLA.out]; omega)
    rw [hr] at hstep
    obtain ⟨xa, hxa⟩ : ∃ r, rd a i = r := ⟨_, rfl⟩
    obtain ⟨xb, hxb⟩ : ∃ r, rd b i = r := ⟨_, rfl⟩
    rw [hxa, hxb] at hstep
    obtain ⟨wd, hwd⟩ : ∃ z_ : World, wr.drew = z_ := ⟨_, rfl⟩
    have HPd := Aside0.mk (HP.out.drewN 1)
    rw [← World.drew_is_drewN, hwd] at HPd
    have ha := cellN (HPd.out.blk 1 rfl) i (by rw [HLA.out]; omega)
    have hb := cellN (HPd.out.blk 0 rfl) i (by rw [HLB.out]; omega)
    rw [hxa] at ha
    rw [hxb] at hb
    have HR := Aside0.mk hr
    have HS := Aside0.mk hstep
    clear hx hk c1 hr hxa hxb hstep
    by_cases c2 : xa = xb
    · have d2 : (xa != xb) = false := bne_eq_false_iff_eq.2 c2
      have hs := HS.out
      rw [if_pos c2] at hs
      clear c2 HS
      have HS := Aside0.mk hs
      clear hs
      rw [HR.out]
      go_wp2_with fail
      refine still_lit (by kernel_rfl) (by kernel_rfl) hwd ?_
      repeat still_step
      refine wpStill_nil ?_
      go_wp2_with fail
      go_roundg i
      case measure => omega
      case rel => exact ⟨(i : Int) - 1, by rw [HS.out], by first | rfl | simp, ⟨by have := HK.out; omega⟩, ⟨by omega⟩, ⟨HPd.out⟩⟩
    · have d2 : (xa != xb) = true := bne_iff_ne.2 c2
      have hs := HS.out
      rw [if_neg c2] at hs
      clear c2 HS
      have HS := Aside0.mk hs
      clear hs
      obtain ⟨we, hwe⟩ : ∃ z_ : World, wd.drew = z_ := ⟨_, rfl⟩
      have HPe := Aside0.mk (HPd.out.drewN 1)
      rw [← World.drew_is_drewN, hwe] at HPe
      have ha2 := (congrArg (fun z => z.cell? ⟨g_a, i, none⟩) hwe).symm.trans ha
      have hb2 := (congrArg (fun z => z.cell? ⟨g_b, i, none⟩) hwe).symm.trans hb
      go_wp2_with fail
      refine still_lit (by kernel_rfl) (by kernel_rfl) hwd ?_
      repeat still_step
      refine wpStill_nil ?_
      go_wp2_with fail
      refine still_lit (by kernel_rfl) (by kernel_rfl) hwe ?_
      repeat still_step
      refine wpStill_nil ?_
      go_wp2_with fail
      go_roundg i
      case measure => omega
      case rel => exact ⟨(i : Int) - 1, by rw [HS.out], by first | rfl | simp, ⟨by have := HK.out; omega⟩, ⟨by omega⟩, ⟨HPe.out⟩⟩
  · obtain rfl : gk = 0 := by omega
    have d1 : decide (x ≥ 0) = false := decide_eq_false (by omega)
    rw [List.drop_zero, List.drop_zero]
    have hl1 := HLA.out
    have hl2 := HLB.out
    have hia : (Try.prog.info? 23).map (·.size) = some (u8s a).length := by rw [u8s_len, hl1]; kernel_rfl
    have hib : (Try.prog.info? 23).map (·.size) = some (u8s b).length := by rw [u8s_len, hl2]; kernel_rfl
    have hu := Try.underlying23
    obtain ⟨lt, hlt⟩ : ∃ r, ltI a b = r := ⟨_, rfl⟩
    rw [hlt]
    have hrank := rank_less a b HLA.out HBB.out.1 HLB.out HBB.out.2
    rw [HTX.out.1, HTX.out.2, hlt] at hrank
    obtain ⟨hless, heqs⟩ := hrank
    obtain ⟨eb, heb⟩ : ∃ r, decide (a = b) = r := ⟨_, rfl⟩
    rw [heb] at heqs
    have heqa : ∀ d w, (Op.equalIn (d + 2) 23 (.agg (u8s a).toArray) (.agg (u8s b).toArray)).run Try.prog w = .ok eb w := fun d w => by rw [eq_id d w a b HLA.out HLB.out, heb]
    clear heb
    have HLT := Aside0.mk hlt
    clear hx hk c1 HK HX hl1 hl2 hlt
    go_wp2_with fail
    refine wp_region_held_drew (S := (fun w' => w'.rangeAt g_a 0 (u8s a) ∧ w'.rangeAt g_b 0 (u8s b))) (by kernel_rfl) ?_ (fun hHeld => ?_)
    · have HPn := Aside0.mk (HP.out.drewN 1)
      rw [← World.drew_is_drewN] at HPn
      clear HP
      have HP := HPn
      clear HPn
      exact ⟨rangeB (HP.out.blk 1 rfl), rangeB (HP.out.blk 0 rfl)⟩
    have HPn := Aside0.mk (HP.out.drewN 1)
    rw [← World.drew_is_drewN] at HPn
    clear HP
    have HP := HPn
    clear HPn
    refine wpAnyH_take (i := 0) (oi := ({ dst := (some 29), op := (Op.load 23 (Operand.tmp 2)), type := 23, pos := "outright.go:115", after := #[], guard := none } : Oper)) (v := _) rfl (by kernel_rfl) (by kernel_rfl) (by kernel_rfl) (fun _ _ _ h => h) (yieldsIf_load_mid (by rfl) _ _ rfl _ _ rfl _ _ (fun w hw => hw.1) hu rfl hia) hHeld ?_
    try simp only [Act.put, List.setIfInBounds_toArray, List.set_cons_zero, List.set_cons_succ]
    refine wpAnyH_take (i := 2) (oi := ({ dst := (some 31), op := (Op.load 23 (Operand.tmp 3)), type := 23, pos := "outright.go:115", after := #[], guard := none } : Oper)) (v := _) rfl (by kernel_rfl) (by kernel_rfl) (by kernel_rfl) (fun _ _ _ h => h) (yieldsIf_load_mid (by rfl) _ _ rfl _ _ rfl _ _ (fun w hw => hw.2) hu rfl hib) hHeld ?_
    try simp only [Act.put, List.setIfInBounds_toArray, List.set_cons_zero, List.set_cons_succ]
    refine wpAnyH_ready (rs := [1]) (by kernel_rfl) (by simp) ?_
    refine AllReadyH.cons (o := ({ dst := (some 30), op := (Op.call { callee := (Callee.value (Operand.func 13)), args := #[(Operand.tmp 29)], argTypes := #[23] }), type := 9, pos := "outright.go:115", after := #[{ on := 0, ground := Ground.data }], guard := none } : Oper)) rfl (fun K hK => ?_) AllReadyH.nil
    go_simp
    go_at_call 13; (with_reducible refine (CA.out _).mono ?_); rintro e w5 ⟨rfl, hb⟩; have HPn := Aside0.mk (HP.out.call hb); clear HP; have HP := HPn; clear HPn; clear hb
    go_wp2_with fail
    clear hHeld
    refine hK.out _ _ ?_ (fun hHeld => ?_)
    · (try dsimp only); exact ⟨rangeB (HP.out.blk 1 rfl), rangeB (HP.out.blk 0 rfl)⟩
    clear hK K
    try simp only [Act.put, List.setIfInBounds_toArray, List.set_cons_zero, List.set_cons_succ]
    refine wpAnyH_ready (rs := [3]) (by kernel_rfl) (by simp) ?_
    refine AllReadyH.cons (o := ({ dst := (some 32), op := (Op.call { callee := (Callee.value (Operand.func 13)), args := #[(Operand.tmp 31)], argTypes := #[23] }), type := 9, pos := "outright.go:115", after := #[{ on := 2, ground := Ground.data }, { on := 1, ground := Ground.chain }], guard := none } : Oper)) rfl (fun K hK => ?_) AllReadyH.nil
    go_simp
    go_at_call 13; (with_reducible refine (CB.out _).mono ?_); rintro e w5 ⟨rfl, hb⟩; have HPn := Aside0.mk (HP.out.call hb); clear HP; have HP := HPn; clear HPn; clear hb
    go_wp2_with fail
    clear hHeld
    refine hK.out _ _ ?_ (fun hHeld => ?_)
    · (try dsimp only); exact ⟨rangeB (HP.out.blk 1 rfl), rangeB (HP.out.blk 0 rfl)⟩
    clear hK K
    try simp only [Act.put, List.setIfInBounds_toArray, List.set_cons_zero, List.set_cons_succ]
    refine wpAnyH_take (i := 4) (oi := ({ dst := (some 8), op := (Op.assign (Operand.tmp 30)), type := 9, pos := "outright.go:115", after := #[{ on := 1, ground := Ground.data }, { on := 3, ground := Ground.chain }, { on := 0, ground := Ground.phase }, { on := 1, ground := Ground.phase }, { on := 2, ground := (Ground.textOnly Departure.lateStores) }, { on := 3, ground := (Ground.textOnly Departure.lateStoresUnsure) }], guard := none } : Oper)) (v := ?_) rfl (by kernel_rfl) (by kernel_rfl) (by kernel_rfl) (fun _ _ _ h => h) (Or.inl ⟨by rfl, ?_⟩) hHeld ?_
    rotate_left
    · intro w_ hSw; (try dsimp only at hSw); go_simp; try (with_reducible rfl)
    try simp only [Act.put, List.setIfInBounds_toArray, List.set_cons_zero, List.set_cons_succ]
    refine wpAnyH_take (i := 5) (oi := ({ dst := (some 9), op := (Op.assign (Operand.tmp 32)), type := 9, pos := "outright.go:115", after := #[{ on := 3, ground := Ground.data }, { on := 4, ground := Ground.chain }, { on := 0, ground := Ground.phase }, { on := 1, ground := Ground.phase }, { on := 2, ground := Ground.phase }, { on := 3, ground := Ground.phase }, { on := 4, ground := Ground.phase }], guard := none } : Oper)) (v := ?_) rfl (by kernel_rfl) (by kernel_rfl) (by kernel_rfl) (fun _ _ _ h => h) (Or.inl ⟨by rfl, ?_⟩) hHeld ?_
    rotate_left
    · intro w_ hSw; (try dsimp only at hSw); go_simp; try (with_reducible rfl)
    try simp only [Act.put, List.setIfInBounds_toArray, List.set_cons_zero, List.set_cons_succ]
    refine wpAnyH_done (by kernel_rfl) ?_ _
    go_wp2_with (first | ((with_reducible refine gate_dst (N := 45) rfl ?_); refine ev_load rfl 23 (.tmp 2) rfl g_a rfl (HP.out.blk 1 rfl) Try.underlying23 rfl (by rw [List.size_toArray]; exact hia) ?_) | ((with_reducible refine gate_dst (N := 46) rfl ?_); refine ev_load rfl 23 (.tmp 3) rfl g_b rfl (HP.out.blk 0 rfl) Try.underlying23 rfl (by rw [List.size_toArray]; exact hib) ?_))
    go_ret
    exact ⟨rfl, HP.out.below⟩
end Go.Proofs.Ytpnjbogpooejhaa.H
