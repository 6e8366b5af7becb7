import Derived.Test.YtpnjbogpooejhaaL3a
import Derived.Test.YtpnjbogpooejhaaK6
namespace Go.Proofs.Ytpnjbogpooejhaa.H
open Go.RowKit Go.Proofs.Ytpnjbogpooejhaa.XH Go.Proofs.YtpnjbogpooejhaaW.PrintWords Go.Proofs.YtpnjbogpooejhaaW.PrintLast Go.Proofs.YtpnjbogpooejhaaW.PrintMore Go.Proofs.YtpnjbogpooejhaaXe Go.Proofs.YtpnjbogpooejhaaXs
set_option linter.unusedVariables false
set_option linter.unusedSimpArgs false
attribute [local go_sem ↓] Go.wp_at_zero Go.wp_at_succ
attribute [local go_sem] valUpon
attribute [local go_sem ↓ high] bn23
attribute [local go_sem high] BN23.z eq_zz
theorem held_named {P : Program} {ops : Array Oper} {Q : Exit → Act → World → Prop} {S : World → Prop} {id : Nat} {a : Act} {w : World} (hm : P.follows .mixedOrders = true) (h : ∀ wd : World, w.drew = wd → S wd ∧ (S wd → wpAnyH P .any ops Q S ops.size (Array.replicate ops.size false) a wd)) : (Code.region id ops true).wp P Q a w :=
  wp_region_held_drew hm (h _ rfl).1 (h _ rfl).2
theorem wf8 {x : Int} (h : (Lit.int .u8 x).wf = true) : 0 ≤ x ∧ x < 256 := by
  simp [Lit.wf, IntKind.min, IntKind.max, IntKind.signed, IntKind.bits] at h
  omega
set_option maxHeartbeats 8000000 in
set_option maxRecDepth 100000 in
theorem hashDigit_law (id : List Int) (hl : id.length = 32) (hb : ∀ x ∈ id, 0 ≤ x ∧ x < 256) (at_ : Int) (hat : -9223372036854775808 ≤ at_ ∧ at_ ≤ 9223372036854775807) (c : Int) (hc : 0 ≤ c ∧ c < 256) (w : World) : Calls Try.prog 4 #[.agg (u8s id).toArray, .int .i64 at_, .int .u8 c] w fun e w' => e = .returned (.bool true) ∧ Below w.heap.size w w' := by
  have HL := Aside0.mk hl
  have HBY := Aside0.mk hb
  have HP := Aside0.mk (Hp.start w)
  have CT := Aside0.mk (fun w => c_text id hl hb w)
  have CP := Aside0.mk (fun w => c_parse (strOfNums (txI id)) (by rw [strOfNums_size, txI_len]; decide) w)
  rw [text_back id hl hb] at CP
  obtain ⟨r, hr⟩ : ∃ r, Int.tmod at_ 64 = r := ⟨_, rfl⟩
  have hrb : -64 < r ∧ r < 64 := by
    have h1 := Int.tmod_lt_of_pos at_ (show (0 : Int) < 64 by decide)
    have h2 := Int.lt_tmod_of_pos at_ (show (0 : Int) < 64 by decide)
    omega
  obtain ⟨r2, hr2⟩ : ∃ z, r + 64 = z := ⟨_, rfl⟩
  have er2 := i64k hr2 (by omega)
  obtain ⟨q, qi, hqi, hq⟩ : ∃ (q : Nat) (qi : Int), (q : Int) = qi ∧ r2 % 64 = qi := ⟨(r2 % 64).toNat, _, rfl, by omega⟩
  have eq2 : Int.tmod r2 64 = qi := by rw [Int.tmod_eq_emod_of_nonneg (by omega)]; exact hq
  have hq64 : q < 64 := by omega
  have q0 : (0 : Int) ≤ qi := by omega
  have q1 : qi < 64 := by omega
  obtain ⟨q2, hq2⟩ : ∃ z, qi + 1 = z := ⟨_, rfl⟩
  have eq3 := i64k hq2 (by omega)
  have hbad := bad_digit id hb q hq64 c hc.1 hc.2
  rw [hqi] at hbad
  have HQI := Aside0.mk hqi
  have hturn := turned id hl hb q hq64 c hc.1 hc.2
  obtain ⟨tx, htx⟩ : ∃ t, strOfNums (txI id) = t := ⟨_, rfl⟩
  have hts : tx.size = 64 := by rw [← htx, strOfNums_size, txI_len]
  obtain ⟨u1, hu1⟩ : ∃ z, tx.extract 0 q = z := ⟨_, rfl⟩
  obtain ⟨u2, hu2⟩ : ∃ z, strOfNums [c] = z := ⟨_, rfl⟩
  obtain ⟨u3, hu3⟩ : ∃ z, tx.extract (q + 1) 64 = z := ⟨_, rfl⟩
  obtain ⟨u12, hu12⟩ : ∃ z, u1 ++ u2 = z := ⟨_, rfl⟩
  obtain ⟨t, ht⟩ : ∃ z, strOfNums ((txI id).set q c) = z := ⟨_, rfl⟩
  have h123 : u12 ++ u3 = t := by
    rw [← hu12, ← hu1, ← hu2, ← hu3, ← ht, ← htx]
    have htl : (txI id).length = 64 := txI_len id
    apply ByteArray.ext
    apply Array.ext'
    simp only [ByteArray.data_append, ByteArray.data_extract, Array.toList_append, Array.toList_extract, strOfNums_data]
    rw [List.map_set, List.set_eq_take_append_cons_drop, if_pos (by simp [htl]; exact hq64)]
    simp [List.extract_eq_take_drop, htl]
    exact List.take_of_length_le (by simp [htl])
  have hsz : u1.size ≤ 64 ∧ u2.size ≤ 64 ∧ u3.size ≤ 64 ∧ u12.size ≤ 128 := by
    have k1 : u1.size ≤ 64 := by rw [← hu1, ByteArray.size_extract]; omega
    have k3 : u3.size ≤ 64 := by rw [← hu3, ByteArray.size_extract]; omega
    have k2 : u2.size ≤ 64 := by rw [← hu2, strOfNums_size]; simp
    exact ⟨k1, k2, k3, by rw [← hu12, ByteArray.size_append]; omega⟩
  have hsl1 : ∀ w, (Instr.slice 9 (.string tx) none (some (.int .i64 qi)) none).run Try.prog w = .ok (.string u1) w := fun w => by
    rw [run_slice_string_h _ _ _ Try.underlying9 _ _ (by omega) (by omega), ← hu1, show qi.toNat = q by omega]
  have hsl2 : ∀ w, (Instr.slice 9 (.string tx) (some (.int .i64 q2)) none none).run Try.prog w = .ok (.string u3) w := fun w => by
    rw [run_slice_string_l _ _ _ Try.underlying9 _ _ (by omega) (by omega), ← hu3, hts, show q2.toNat = q + 1 by omega]
  have hadd1 : ∀ w, (Op.stringOp .add u1 u2).run Try.prog w = .ok (.string u12) w := fun w => by rw [run_string_add_sum _ _ _ (by omega), hu12]
  have hadd2 : ∀ w, (Op.stringOp .add u12 u3).run Try.prog w = .ok (.string t) w := fun w => by rw [run_string_add_sum _ _ _ (by omega), h123]
  have htsz : t.size = 64 := by rw [← ht, strOfNums_size, List.length_set, txI_len]
  rw [ht] at hbad hturn
  rw [htx] at CT CP hturn
  have CQ := Aside0.mk (fun w => c_parse t (by omega) w)
  have CS := Aside0.mk (fun a h w => c_stops t (by omega) a h w)
  have heqi : ∀ d w, (Op.equalIn (d + 2) 23 (.agg (u8s id).toArray) (.agg (u8s id).toArray)).run Try.prog w = .ok true w := fun d w => by rw [eq_id d w id id hl hl]; simp
  have d64 : ((tx.size : Int) != 64) = false := bne_eq_false_iff_eq.2 (by omega)
  have hiid : (Try.prog.info? 23).map (·.size) = some (u8s id).length := by rw [u8s_len, hl]; kernel_rfl
  have HU2 := Aside0.mk hu2
  have HBAD := Aside0.mk hbad
  have HTURN := Aside0.mk hturn
  have HQ := Aside0.mk hq64
  have HC := Aside0.mk hc
  clear hqi hl hb hat hc hrb hr2 hq hq64 hq2 hbad hturn htx hts hu1 hu2 hu3 hu12 ht h123 hsz htsz
  go_enter Try.func4, Try.ntmps4
  go_wp2_with (first | ((with_reducible refine gate_dst (N := 3) rfl ?_); refine ev_box rfl 23 (.tmp 0) rfl ((u8s id).toArray) rfl ?_; intro g_i wn1 hge hg hb; have HPn := Aside0.mk (HP.out.newB hb hg hge); clear HP; have HP := HPn; clear HPn; clear hge hg hb))
  (with_reducible refine (c_awake _).mono ?_); rintro e wn2 ⟨rfl, hb⟩; have HPn := Aside0.mk (HP.out.call hb); clear HP; have HP := HPn; clear HPn; clear hb
  go_wp2_with (first | ((with_reducible refine gate_dst (N := 17) rfl ?_); refine ev_load rfl 23 (.tmp 3) rfl g_i rfl (HP.out.blk 0 rfl) Try.underlying23 rfl (by rw [List.size_toArray]; exact hiid) ?_))
  (with_reducible refine (CT.out _).mono ?_); rintro e wn3 ⟨rfl, hb⟩; have HPn := Aside0.mk (HP.out.call hb); clear HP; have HP := HPn; clear HPn; clear hb
  go_wp2_with fail
  (with_reducible refine (CP.out _).mono ?_); rintro e wn4 ⟨rfl, hb⟩; have HPn := Aside0.mk (HP.out.call hb); clear HP; have HP := HPn; clear HPn; clear hb
  go_wp2_with (first | ((with_reducible refine gate_dst (N := 9) rfl ?_); refine ev_alloc rfl 23 rfl (.agg (u8s z32).toArray) (by kernel_rfl) ?_; intro g_x wxa hge hg hb; have HPn := Aside0.mk (HP.out.newB hb hg hge); clear HP; have HP := HPn; clear HPn; clear hge hg hb) | ((with_reducible refine gate_dst (N := 10) rfl ?_); refine ev_alloc rfl 27 rfl (.agg #[.int .i64 0, .int .i64 0]) (by kernel_rfl) ?_; intro g_f wxb hge hg hb; have HPn := Aside0.mk (HP.out.newB hb hg hge); clear HP; have HP := HPn; clear HPn; clear hge hg hb) | ((with_reducible refine gate_store (t := 23) (p := 9) rfl ?_); refine ev_store rfl 23 (.tmp 9) (.tmp 22) rfl rfl _ rfl (cells := (u8s id).toArray) rfl (HP.out.blk 1 rfl) (by rw [List.size_toArray, u8s_len, HL.out]; kernel_rfl) (show (u8s z32).toArray.size = (u8s id).toArray.size from by rw [List.size_toArray, List.size_toArray, u8s_len, u8s_len, z32_len, HL.out]) (one_u8 _) ?_; intro wxc hg hgr; have HPn := Aside0.mk (HP.out.setB 1 rfl hgr hg); clear HP; have HP := HPn; clear HPn; clear hg hgr) | ((with_reducible refine gate_store (t := 27) (p := 10) rfl ?_); refine ev_store rfl 27 (.tmp 10) (.tmp 23) rfl rfl _ rfl (cells := #[.int .i64 0, .int .i64 0]) rfl (HP.out.blk 0 rfl) (by kernel_rfl) (by rfl) (by simp [Value.oneCell']) ?_; intro wxd hg hgr; have HPn := Aside0.mk (HP.out.setB 0 rfl hgr hg); clear HP; have HP := HPn; clear HPn; clear hg hgr) | ((with_reducible refine gate_dst (N := 28) rfl ?_); refine ev_load rfl 23 (.tmp 9) rfl g_x rfl (HP.out.blk 1 rfl) Try.underlying23 rfl (by rw [List.size_toArray]; exact hiid) ?_; have hf0 := blk_cell (HP.out.blk 0 rfl) 0) | ((with_reducible refine gate_dst (N := 29) rfl ?_); refine ev_load rfl 23 (.tmp 3) rfl g_i rfl (HP.out.blk 2 rfl) Try.underlying23 rfl (by rw [List.size_toArray]; exact hiid) ?_))
  clear hf0
  refine held_named (S := (fun _ => True)) (by kernel_rfl) (fun wd7 hwd7 => ?_)
  have HPn := Aside0.mk (HP.out.drewN 1)
  rw [← World.drew_is_drewN, hwd7] at HPn
  clear HP hwd7
  have HP := HPn
  clear HPn
  refine ⟨by (try dsimp only); first | done | trivial, fun hHeld => ?_⟩
  refine wpAnyH_take (i := 0) (oi := ({ dst := (some 41), op := (Op.move (Operand.tmp 8)), type := 9, pos := "outright.go:86", after := #[], guard := none } : Oper)) (v := ?_) rfl (by kernel_rfl) (by kernel_rfl) (by kernel_rfl) (fun _ _ _ h => h) (Or.inl ⟨by rfl, ?_⟩) hHeld ?_
  rotate_left
  · intro w_ hSw; (try dsimp only at hSw); go_simp; try (with_reducible rfl)
  try simp only [Act.put, List.setIfInBounds_toArray, List.set_cons_zero, List.set_cons_succ]
  refine wpAnyH_take (i := 1) (oi := ({ dst := (some 42), op := (Op.move (Operand.tmp 1)), type := 3, pos := "outright.go:86", after := #[], guard := none } : Oper)) (v := ?_) rfl (by kernel_rfl) (by kernel_rfl) (by kernel_rfl) (fun _ _ _ h => h) (Or.inl ⟨by rfl, ?_⟩) hHeld ?_
  rotate_left
  · intro w_ hSw; (try dsimp only at hSw); go_simp; try (with_reducible rfl)
  try simp only [Act.put, List.setIfInBounds_toArray, List.set_cons_zero, List.set_cons_succ]
  refine wpAnyH_take (i := 2) (oi := ({ dst := (some 43), op := (Op.slice 9 (Operand.tmp 41) none (some (Operand.tmp 42)) none), type := 9, pos := "outright.go:86", after := #[{ on := 0, ground := Ground.data }, { on := 1, ground := Ground.data }], guard := none } : Oper)) (v := ?_) rfl (by kernel_rfl) (by kernel_rfl) (by kernel_rfl) (fun _ _ _ h => h) (Or.inl ⟨by rfl, ?_⟩) hHeld ?_
  rotate_left
  · intro w_ hSw; (try dsimp only at hSw); go_simp; try (with_reducible rfl)
  try simp only [Act.put, List.setIfInBounds_toArray, List.set_cons_zero, List.set_cons_succ]
  refine wpAnyH_take (i := 3) (oi := ({ dst := (some 44), op := (Op.move (Operand.tmp 2)), type := 5, pos := "outright.go:86", after := #[], guard := none } : Oper)) (v := ?_) rfl (by kernel_rfl) (by kernel_rfl) (by kernel_rfl) (fun _ _ _ h => h) (Or.inl ⟨by rfl, ?_⟩) hHeld ?_
  rotate_left
  · intro w_ hSw; (try dsimp only at hSw); go_simp; try (with_reducible rfl)
  try simp only [Act.put, List.setIfInBounds_toArray, List.set_cons_zero, List.set_cons_succ]
  refine wpAnyH_take (i := 7) (oi := ({ dst := (some 48), op := (Op.move (Operand.tmp 8)), type := 9, pos := "outright.go:86", after := #[], guard := none } : Oper)) (v := ?_) rfl (by kernel_rfl) (by kernel_rfl) (by kernel_rfl) (fun _ _ _ h => h) (Or.inl ⟨by rfl, ?_⟩) hHeld ?_
  rotate_left
  · intro w_ hSw; (try dsimp only at hSw); go_simp; try (with_reducible rfl)
  try simp only [Act.put, List.setIfInBounds_toArray, List.set_cons_zero, List.set_cons_succ]
  refine wpAnyH_take (i := 8) (oi := ({ dst := (some 49), op := (Op.move (Operand.tmp 1)), type := 3, pos := "outright.go:86", after := #[], guard := none } : Oper)) (v := ?_) rfl (by kernel_rfl) (by kernel_rfl) (by kernel_rfl) (fun _ _ _ h => h) (Or.inl ⟨by rfl, ?_⟩) hHeld ?_
  rotate_left
  · intro w_ hSw; (try dsimp only at hSw); go_simp; try (with_reducible rfl)
  try simp only [Act.put, List.setIfInBounds_toArray, List.set_cons_zero, List.set_cons_succ]
  refine wpAnyH_take (i := 9) (oi := ({ dst := (some 50), op := (Op.binOp BinOp.add 3 (Operand.tmp 49) (Operand.const (Value.int IntKind.i64 1)) 3), type := 3, pos := "outright.go:86", after := #[{ on := 8, ground := Ground.data }], guard := none } : Oper)) (v := ?_) rfl (by kernel_rfl) (by kernel_rfl) (by kernel_rfl) (fun _ _ _ h => h) (Or.inl ⟨by rfl, ?_⟩) hHeld ?_
  rotate_left
  · intro w_ hSw; (try dsimp only at hSw); go_simp; try (with_reducible rfl)
  try simp only [Act.put, List.setIfInBounds_toArray, List.set_cons_zero, List.set_cons_succ]
  refine wpAnyH_take (i := 10) (oi := ({ dst := (some 51), op := (Op.slice 9 (Operand.tmp 48) (some (Operand.tmp 50)) none none), type := 9, pos := "outright.go:86", after := #[{ on := 7, ground := Ground.data }, { on := 9, ground := Ground.data }], guard := none } : Oper)) (v := ?_) rfl (by kernel_rfl) (by kernel_rfl) (by kernel_rfl) (fun _ _ _ h => h) (Or.inl ⟨by rfl, ?_⟩) hHeld ?_
  rotate_left
  · intro w_ hSw; (try dsimp only at hSw); go_simp; try (with_reducible rfl)
  try simp only [Act.put, List.setIfInBounds_toArray, List.set_cons_zero, List.set_cons_succ]
  refine wpAnyH_ready (rs := [4]) (by kernel_rfl) (by simp) ?_
  refine AllReadyH.cons (o := ({ dst := (some 45), op := (Op.buildSlice 32 1 #[(0, (Operand.tmp 44))]), type := 32, pos := "outright.go:86", after := #[{ on := 3, ground := Ground.data }], guard := none } : Oper)) rfl (fun K hK => ?_) AllReadyH.nil
  go_simp; have HPn := Aside0.mk (HP.out.alloc (.cells #[.int .u8 c] 5 (0, 0))); clear HP; have HP := HPn; clear HPn
  clear hHeld
  refine hK.out _ _ ?_ (fun hHeld => ?_)
  · (try dsimp only); first | done | trivial
  clear hK K
  try simp only [Act.put, List.setIfInBounds_toArray, List.set_cons_zero, List.set_cons_succ]
  refine wpAnyH_ready (rs := [5]) (by kernel_rfl) (by simp) ?_
  refine AllReadyH.cons (o := ({ dst := (some 46), op := (Op.convert 32 9 (Operand.tmp 45)), type := 9, pos := "outright.go:86", after := #[{ on := 4, ground := Ground.data }], guard := none } : Oper)) rfl (fun K hK => ?_) AllReadyH.nil
  have hcv := Kd.C_string (P := Try.prog) (c := 1) Try.underlying32 Try.underlying5 Try.underlying9 (C_blkW (k := .u8) (l := [c]) (HP.out.blk 0 rfl) (by simp)); rw [HU2.out] at hcv; simp only [List.length_singleton] at hcv; go_simp; clear hcv
  clear hHeld
  refine hK.out _ _ ?_ (fun hHeld => ?_)
  · (try dsimp only); first | done | trivial
  clear hK K
  try simp only [Act.put, List.setIfInBounds_toArray, List.set_cons_zero, List.set_cons_succ]
  refine wpAnyH_take (i := 6) (oi := ({ dst := (some 47), op := (Op.binOp BinOp.add 9 (Operand.tmp 43) (Operand.tmp 46) 9), type := 9, pos := "outright.go:86", after := #[{ on := 2, ground := Ground.data }, { on := 5, ground := Ground.data }], guard := none } : Oper)) (v := ?_) rfl (by kernel_rfl) (by kernel_rfl) (by kernel_rfl) (fun _ _ _ h => h) (Or.inl ⟨by rfl, ?_⟩) hHeld ?_
  rotate_left
  · intro w_ hSw; (try dsimp only at hSw); go_simp; try (with_reducible rfl)
  try simp only [Act.put, List.setIfInBounds_toArray, List.set_cons_zero, List.set_cons_succ]
  refine wpAnyH_take (i := 11) (oi := ({ dst := (some 52), op := (Op.binOp BinOp.add 9 (Operand.tmp 47) (Operand.tmp 51) 9), type := 9, pos := "outright.go:86", after := #[{ on := 6, ground := Ground.data }, { on := 10, ground := Ground.data }], guard := none } : Oper)) (v := ?_) rfl (by kernel_rfl) (by kernel_rfl) (by kernel_rfl) (fun _ _ _ h => h) (Or.inl ⟨by rfl, ?_⟩) hHeld ?_
  rotate_left
  · intro w_ hSw; (try dsimp only at hSw); go_simp; try (with_reducible rfl)
  try simp only [Act.put, List.setIfInBounds_toArray, List.set_cons_zero, List.set_cons_succ]
  refine wpAnyH_take (i := 12) (oi := ({ dst := (some 11), op := (Op.assign (Operand.tmp 52)), type := 9, pos := "outright.go:86", after := #[{ on := 11, ground := Ground.data }, { on := 0, ground := Ground.phase }, { on := 1, ground := Ground.phase }, { on := 2, ground := Ground.phase }, { on := 3, ground := Ground.phase }, { on := 4, ground := Ground.phase }, { on := 5, ground := Ground.phase }, { on := 6, ground := Ground.phase }, { on := 7, ground := Ground.phase }, { on := 8, ground := Ground.phase }, { on := 9, ground := Ground.phase }, { on := 10, ground := Ground.phase }, { on := 11, ground := Ground.phase }], guard := none } : Oper)) (v := ?_) rfl (by kernel_rfl) (by kernel_rfl) (by kernel_rfl) (fun _ _ _ h => h) (Or.inl ⟨by rfl, ?_⟩) hHeld ?_
  rotate_left
  · intro w_ hSw; (try dsimp only at hSw); go_simp; try (with_reducible rfl)
  try simp only [Act.put, List.setIfInBounds_toArray, List.set_cons_zero, List.set_cons_succ]
  refine wpAnyH_done (by kernel_rfl) ?_ _
  go_wp2_with fail
  have HPn := Aside0.mk (Hp.drop1 HP.out)
  clear HP
  have HP := HPn
  clear HPn
  by_cases c16 : plI c = 16
  · have CQ2 := CQ
    rw [HBAD.out c16] at CQ2
    have CS2 := Aside0.mk (fun w => CS.out qi (HBAD.out c16) w)
    clear HTURN HBAD CQ CS
    have hcr : c < 48 ∨ (57 < c ∧ c < 97) ∨ 102 < c := by
      have h0 := HC.out
      unfold plI at c16
      split at c16
      · omega
      · split at c16 <;> omega
    clear c16
    rcases hcr with h | h | h
    · have d1 : decide (48 ≤ c) = false := decide_eq_false (by omega)
      have e1 : (48 ≤ c) = False := eq_false (by omega)
      have d3 : decide (c ≤ 57) = true := decide_eq_true (by omega)
      have e3 : (c ≤ 57) = True := eq_true (by omega)
      have d2 : decide (97 ≤ c) = false := decide_eq_false (by omega)
      have e2 : (97 ≤ c) = False := eq_false (by omega)
      clear h
      (with_reducible refine (CQ2.out _).mono ?_); rintro e wn5 ⟨rfl, hb⟩; have HPn := Aside0.mk (HP.out.call hb); clear HP; have HP := HPn; clear HPn; clear hb
      go_wp2_with (first | ((with_reducible refine gate_dst (N := 12) rfl ?_); refine ev_alloc rfl 23 rfl (.agg (u8s z32).toArray) (by kernel_rfl) ?_; intro g_y wya hge hg hb; have HPn := Aside0.mk (HP.out.newB hb hg hge); clear HP; have HP := HPn; clear HPn; clear hge hg hb) | ((with_reducible refine gate_dst (N := 13) rfl ?_); refine ev_alloc rfl 27 rfl (.agg #[.int .i64 0, .int .i64 0]) (by kernel_rfl) ?_; intro g_h wyb hge hg hb; have HPn := Aside0.mk (HP.out.newB hb hg hge); clear HP; have HP := HPn; clear HPn; clear hge hg hb) | ((with_reducible refine gate_store (t := 23) (p := 12) rfl ?_); refine ev_store rfl 23 (.tmp 12) (.tmp 56) rfl rfl _ rfl (cells := (u8s z32).toArray) rfl (HP.out.blk 1 rfl) (by kernel_rfl) (by rfl) (one_u8 _) ?_; intro wyc hg hgr; have HPn := Aside0.mk (HP.out.setB 1 rfl hgr hg); clear HP; have HP := HPn; clear HPn; clear hg hgr) | ((with_reducible refine gate_store (t := 27) (p := 13) rfl ?_); refine ev_store rfl 27 (.tmp 13) (.tmp 57) rfl rfl _ rfl (cells := #[.int .i64 4, .int .i64 qi]) rfl (HP.out.blk 0 rfl) (by kernel_rfl) (by rfl) (by simp [Value.oneCell']) ?_; intro wyd hg hgr; have HPn := Aside0.mk (HP.out.setB 0 rfl hgr hg); clear HP; have HP := HPn; clear HPn; clear hg hgr))
      (with_reducible refine (CS2.out _).mono ?_); rintro e wn6 ⟨rfl, hb⟩; have HPn := Aside0.mk (HP.out.call hb); clear HP; have HP := HPn; clear HPn; clear hb
      go_wp2_with fail
      go_ret
      exact ⟨rfl, HP.out.below⟩
    · have d1 : decide (48 ≤ c) = true := decide_eq_true (by omega)
      have e1 : (48 ≤ c) = True := eq_true (by omega)
      have d3 : decide (c ≤ 57) = false := decide_eq_false (by omega)
      have e3 : (c ≤ 57) = False := eq_false (by omega)
      have d2 : decide (97 ≤ c) = false := decide_eq_false (by omega)
      have e2 : (97 ≤ c) = False := eq_false (by omega)
      clear h
      (with_reducible refine (CQ2.out _).mono ?_); rintro e wn5 ⟨rfl, hb⟩; have HPn := Aside0.mk (HP.out.call hb); clear HP; have HP := HPn; clear HPn; clear hb
      go_wp2_with (first | ((with_reducible refine gate_dst (N := 12) rfl ?_); refine ev_alloc rfl 23 rfl (.agg (u8s z32).toArray) (by kernel_rfl) ?_; intro g_y wya hge hg hb; have HPn := Aside0.mk (HP.out.newB hb hg hge); clear HP; have HP := HPn; clear HPn; clear hge hg hb) | ((with_reducible refine gate_dst (N := 13) rfl ?_); refine ev_alloc rfl 27 rfl (.agg #[.int .i64 0, .int .i64 0]) (by kernel_rfl) ?_; intro g_h wyb hge hg hb; have HPn := Aside0.mk (HP.out.newB hb hg hge); clear HP; have HP := HPn; clear HPn; clear hge hg hb) | ((with_reducible refine gate_store (t := 23) (p := 12) rfl ?_); refine ev_store rfl 23 (.tmp 12) (.tmp 56) rfl rfl _ rfl (cells := (u8s z32).toArray) rfl (HP.out.blk 1 rfl) (by kernel_rfl) (by rfl) (one_u8 _) ?_; intro wyc hg hgr; have HPn := Aside0.mk (HP.out.setB 1 rfl hgr hg); clear HP; have HP := HPn; clear HPn; clear hg hgr) | ((with_reducible refine gate_store (t := 27) (p := 13) rfl ?_); refine ev_store rfl 27 (.tmp 13) (.tmp 57) rfl rfl _ rfl (cells := #[.int .i64 4, .int .i64 qi]) rfl (HP.out.blk 0 rfl) (by kernel_rfl) (by rfl) (by simp [Value.oneCell']) ?_; intro wyd hg hgr; have HPn := Aside0.mk (HP.out.setB 0 rfl hgr hg); clear HP; have HP := HPn; clear HPn; clear hg hgr))
      (with_reducible refine (CS2.out _).mono ?_); rintro e wn6 ⟨rfl, hb⟩; have HPn := Aside0.mk (HP.out.call hb); clear HP; have HP := HPn; clear HPn; clear hb
      go_wp2_with fail
      go_ret
      exact ⟨rfl, HP.out.below⟩
    · have d1 : decide (48 ≤ c) = true := decide_eq_true (by omega)
      have e1 : (48 ≤ c) = True := eq_true (by omega)
      have d3 : decide (c ≤ 57) = false := decide_eq_false (by omega)
      have e3 : (c ≤ 57) = False := eq_false (by omega)
      have d2 : decide (97 ≤ c) = true := decide_eq_true (by omega)
      have e2 : (97 ≤ c) = True := eq_true (by omega)
      have d4 : decide (c ≤ 102) = false := decide_eq_false (by omega)
      have e4 : (c ≤ 102) = False := eq_false (by omega)
      clear h
      (with_reducible refine (CQ2.out _).mono ?_); rintro e wn5 ⟨rfl, hb⟩; have HPn := Aside0.mk (HP.out.call hb); clear HP; have HP := HPn; clear HPn; clear hb
      go_wp2_with (first | ((with_reducible refine gate_dst (N := 12) rfl ?_); refine ev_alloc rfl 23 rfl (.agg (u8s z32).toArray) (by kernel_rfl) ?_; intro g_y wya hge hg hb; have HPn := Aside0.mk (HP.out.newB hb hg hge); clear HP; have HP := HPn; clear HPn; clear hge hg hb) | ((with_reducible refine gate_dst (N := 13) rfl ?_); refine ev_alloc rfl 27 rfl (.agg #[.int .i64 0, .int .i64 0]) (by kernel_rfl) ?_; intro g_h wyb hge hg hb; have HPn := Aside0.mk (HP.out.newB hb hg hge); clear HP; have HP := HPn; clear HPn; clear hge hg hb) | ((with_reducible refine gate_store (t := 23) (p := 12) rfl ?_); refine ev_store rfl 23 (.tmp 12) (.tmp 56) rfl rfl _ rfl (cells := (u8s z32).toArray) rfl (HP.out.blk 1 rfl) (by kernel_rfl) (by rfl) (one_u8 _) ?_; intro wyc hg hgr; have HPn := Aside0.mk (HP.out.setB 1 rfl hgr hg); clear HP; have HP := HPn; clear HPn; clear hg hgr) | ((with_reducible refine gate_store (t := 27) (p := 13) rfl ?_); refine ev_store rfl 27 (.tmp 13) (.tmp 57) rfl rfl _ rfl (cells := #[.int .i64 4, .int .i64 qi]) rfl (HP.out.blk 0 rfl) (by kernel_rfl) (by rfl) (by simp [Value.oneCell']) ?_; intro wyd hg hgr; have HPn := Aside0.mk (HP.out.setB 0 rfl hgr hg); clear HP; have HP := HPn; clear HPn; clear hg hgr))
      (with_reducible refine (CS2.out _).mono ?_); rintro e wn6 ⟨rfl, hb⟩; have HPn := Aside0.mk (HP.out.call hb); clear HP; have HP := HPn; clear HPn; clear hb
      go_wp2_with fail
      go_ret
      exact ⟨rfl, HP.out.below⟩
  · obtain ⟨y, hyl, hyb, hyp, hyt, hye, hyo, hy0, hy1⟩ := HTURN.out c16
    have CQ2 := CQ
    rw [hyp] at CQ2
    have CY := Aside0.mk (fun w => c_text y hyl hyb w)
    rw [hyt] at CY
    have HYL := Aside0.mk hyl
    have HYB := Aside0.mk hyb
    have HYO := Aside0.mk hyo
    have HY0 := Aside0.mk hy0
    have HY1 := Aside0.mk hy1
    have hiiy : (Try.prog.info? 23).map (·.size) = some (u8s y).length := by rw [u8s_len, hyl]; kernel_rfl
    obtain ⟨eb, heb⟩ : ∃ z, decide (y = id) = z := ⟨_, rfl⟩
    have heqy : ∀ d w, (Op.equalIn (d + 2) 23 (.agg (u8s y).toArray) (.agg (u8s id).toArray)).run Try.prog w = .ok eb w := fun d w => by rw [eq_id d w y id hyl HL.out, heb]
    have heqt : (t.toList == tx.toList) = eb := by rw [← heb, Bool.eq_iff_iff, beq_iff_eq, hye, decide_eq_true_eq]
    clear HTURN HBAD CQ CS hyl hyb hyp hyt hye hyo hy0 hy1 heb
    have hcr : (48 ≤ c ∧ c ≤ 57) ∨ (97 ≤ c ∧ c ≤ 102) := by
      unfold plI at c16
      split at c16
      · omega
      · split at c16 <;> omega
    clear c16
    rcases hcr with h | h
    · have d1 : decide (48 ≤ c) = true := decide_eq_true (by omega)
      have e1 : (48 ≤ c) = True := eq_true (by omega)
      have d3 : decide (c ≤ 57) = true := decide_eq_true (by omega)
      have e3 : (c ≤ 57) = True := eq_true (by omega)
      clear h
      (with_reducible refine (CQ2.out _).mono ?_); rintro e wn5 ⟨rfl, hb⟩; have HPn := Aside0.mk (HP.out.call hb); clear HP; have HP := HPn; clear HPn; clear hb
      go_wp2_with (first | ((with_reducible refine gate_dst (N := 12) rfl ?_); refine ev_alloc rfl 23 rfl (.agg (u8s z32).toArray) (by kernel_rfl) ?_; intro g_y wya hge hg hb; have HPn := Aside0.mk (HP.out.newB hb hg hge); clear HP; have HP := HPn; clear HPn; clear hge hg hb) | ((with_reducible refine gate_dst (N := 13) rfl ?_); refine ev_alloc rfl 27 rfl (.agg #[.int .i64 0, .int .i64 0]) (by kernel_rfl) ?_; intro g_h wyb hge hg hb; have HPn := Aside0.mk (HP.out.newB hb hg hge); clear HP; have HP := HPn; clear HPn; clear hge hg hb) | ((with_reducible refine gate_store (t := 23) (p := 12) rfl ?_); refine ev_store rfl 23 (.tmp 12) (.tmp 56) rfl rfl _ rfl (cells := (u8s y).toArray) rfl (HP.out.blk 1 rfl) (by rw [List.size_toArray, u8s_len, HYL.out]; kernel_rfl) (show (u8s z32).toArray.size = (u8s y).toArray.size from by rw [List.size_toArray, List.size_toArray, u8s_len, u8s_len, z32_len, HYL.out]) (one_u8 _) ?_; intro wyc hg hgr; have HPn := Aside0.mk (HP.out.setB 1 rfl hgr hg); clear HP; have HP := HPn; clear HPn; clear hg hgr) | ((with_reducible refine gate_store (t := 27) (p := 13) rfl ?_); refine ev_store rfl 27 (.tmp 13) (.tmp 57) rfl rfl _ rfl (cells := #[.int .i64 0, .int .i64 0]) rfl (HP.out.blk 0 rfl) (by kernel_rfl) (by rfl) (by simp [Value.oneCell']) ?_; intro wyd hg hgr; have HPn := Aside0.mk (HP.out.setB 0 rfl hgr hg); clear HP; have HP := HPn; clear HPn; clear hg hgr; have hf1 := blk_cell (HP.out.blk 0 rfl) 0) | ((with_reducible refine gate_dst (N := 84) rfl ?_); refine ev_load rfl 23 (.tmp 12) rfl g_y rfl (HP.out.blk 1 rfl) Try.underlying23 rfl (by rw [List.size_toArray]; exact hiiy) ?_))
      (with_reducible refine (CY.out _).mono ?_); rintro e wn6 ⟨rfl, hb⟩; have HPn := Aside0.mk (HP.out.call hb); clear HP; have HP := HPn; clear HPn; clear hb hf1
      go_wp2_with (first | ((with_reducible refine gate_dst (N := 90) rfl ?_); refine ev_load rfl 23 (.tmp 12) rfl g_y rfl (HP.out.blk 1 rfl) Try.underlying23 rfl (by rw [List.size_toArray]; exact hiiy) ?_) | ((with_reducible refine gate_dst (N := 91) rfl ?_); refine ev_load rfl 23 (.tmp 3) rfl g_i rfl (HP.out.blk 4 rfl) Try.underlying23 rfl (by rw [List.size_toArray]; exact hiid) ?_))
      have HP1 := Aside0.mk (show Hp w wn6 [.blk g_h (.cells #[.int .i64 0, .int .i64 0] 27 (0, 0)), .blk g_y (.cells (u8s y).toArray 23 (0, 0)), .blk g_f (.cells #[.int .i64 0, .int .i64 0] 27 (0, 0)), .blk g_x (.cells (u8s id).toArray 23 (0, 0)), .blk g_i (.cells (u8s id).toArray 23 (0, 0))] from HP.out)
      clear HP CQ2 CY CT CP d64 hadd1 hadd2 hsl1 hsl2 er2 eq2 eq3
      obtain ⟨qh, hqh⟩ : ∃ z, qi / 2 = z := ⟨_, rfl⟩
      have eqh : Int.tdiv qi 2 = qh := by rw [Int.tdiv_eq_ediv_of_nonneg (by omega)]; exact hqh
      have h0 : 0 ≤ qh := by omega
      have h1 : qh < 32 := by omega
      have HQH := Aside0.mk (show qh = ((q / 2 : Nat) : Int) by have := HQI.out; omega)
      have HQH2 := Aside0.mk hqh
      have hq3 : (qi / 2) = qh := hqh
      have ewq := i64k (x := qh) rfl (by omega)
      clear hqh
      go_loopg [15] 32 (fun kq v15 w' => ∃ (i : Nat) (x : Int), v15 = .int .i64 x ∧ Aside0 (x = (i : Int)) ∧ Aside0 (kq + i = 32) ∧ Aside0 (Hp w w' [.blk g_h (.cells #[.int .i64 0, .int .i64 0] 27 (0, 0)), .blk g_y (.cells (u8s y).toArray 23 (0, 0)), .blk g_f (.cells #[.int .i64 0, .int .i64 0] 27 (0, 0)), .blk g_x (.cells (u8s id).toArray 23 (0, 0)), .blk g_i (.cells (u8s id).toArray 23 (0, 0))]))
      case atStart => exact ⟨0, 0, rfl, ⟨rfl⟩, ⟨rfl⟩, HP1⟩
      clear HP1
      obtain ⟨i, x, rfl, HX, HK, HP⟩ := hrel
      have hx := HX.out
      by_cases ci : i < 32
      · have dx : decide (x < 32) = true := decide_eq_true (by omega)
        have ex := i64k (x := x + 1) rfl (by omega)
        have p0 : 0 ≤ x := by omega
        have p1 : x < 32 := by omega
        have HC1 := Aside0.mk ci
        by_cases cx : x = qh
        · have d9 : (x != qh) = false := bne_eq_false_iff_eq.2 cx
          clear hx ci cx
          go_wp2_with fail
          refine held_named (S := (fun _ => True)) (by kernel_rfl) (fun wd9 hwd9 => ?_)
          have HPn := Aside0.mk (HP.out.drewN 1)
          rw [← World.drew_is_drewN, hwd9] at HPn
          clear HP hwd9
          have HP := HPn
          clear HPn
          refine ⟨by (try dsimp only); first | done | trivial, fun hHeld => ?_⟩
          refine wpAnyH_take (i := 0) (oi := ({ dst := (some 102), op := (Op.move (Operand.tmp 15)), type := 3, pos := "outright.go:96", after := #[], guard := none } : Oper)) (v := ?_) rfl (by kernel_rfl) (by kernel_rfl) (by kernel_rfl) (fun _ _ _ h => h) (Or.inl ⟨by rfl, ?_⟩) hHeld ?_
          rotate_left
          · intro w_ hSw; (try dsimp only at hSw); go_simp; try (with_reducible rfl)
          try simp only [Act.put, List.setIfInBounds_toArray, List.set_cons_zero, List.set_cons_succ]
          refine wpAnyH_take (i := 1) (oi := ({ dst := (some 103), op := (Op.move (Operand.tmp 1)), type := 3, pos := "outright.go:96", after := #[], guard := none } : Oper)) (v := ?_) rfl (by kernel_rfl) (by kernel_rfl) (by kernel_rfl) (fun _ _ _ h => h) (Or.inl ⟨by rfl, ?_⟩) hHeld ?_
          rotate_left
          · intro w_ hSw; (try dsimp only at hSw); go_simp; try (with_reducible rfl)
          try simp only [Act.put, List.setIfInBounds_toArray, List.set_cons_zero, List.set_cons_succ]
          refine wpAnyH_take (i := 2) (oi := ({ dst := (some 104), op := (Op.binOp BinOp.quo 3 (Operand.tmp 103) (Operand.const (Value.int IntKind.i64 2)) 3), type := 3, pos := "outright.go:96", after := #[{ on := 1, ground := Ground.data }], guard := none } : Oper)) (v := ?_) rfl (by kernel_rfl) (by kernel_rfl) (by kernel_rfl) (fun _ _ _ h => h) (Or.inl ⟨by rfl, ?_⟩) hHeld ?_
          rotate_left
          · intro w_ hSw; (try dsimp only at hSw); go_simp; try (with_reducible rfl)
          try simp only [Act.put, List.setIfInBounds_toArray, List.set_cons_zero, List.set_cons_succ]
          refine wpAnyH_take (i := 3) (oi := ({ dst := (some 105), op := (Op.binOp BinOp.neq 3 (Operand.tmp 102) (Operand.tmp 104) 3), type := 4, pos := "outright.go:96", after := #[{ on := 0, ground := Ground.data }, { on := 2, ground := Ground.data }], guard := none } : Oper)) (v := ?_) rfl (by kernel_rfl) (by kernel_rfl) (by kernel_rfl) (fun _ _ _ h => h) (Or.inl ⟨by rfl, ?_⟩) hHeld ?_
          rotate_left
          · intro w_ hSw; (try dsimp only at hSw); go_simp; try (with_reducible rfl)
          try simp only [Act.put, List.setIfInBounds_toArray, List.set_cons_zero, List.set_cons_succ]
          refine wpAnyH_take (i := 4) (oi := ({ dst := (some 106), op := (Op.move (Operand.tmp 105)), type := 4, pos := "outright.go:96", after := #[{ on := 3, ground := Ground.data }], guard := none } : Oper)) (v := ?_) rfl (by kernel_rfl) (by kernel_rfl) (by kernel_rfl) (fun _ _ _ h => h) (Or.inl ⟨by rfl, ?_⟩) hHeld ?_
          rotate_left
          · intro w_ hSw; (try dsimp only at hSw); go_simp; try (with_reducible rfl)
          try simp only [Act.put, List.setIfInBounds_toArray, List.set_cons_zero, List.set_cons_succ]
          refine wpAnyH_take (i := 5) (oi := ({ dst := (some 107), op := (Op.move (Operand.tmp 15)), type := 3, pos := "outright.go:96", after := #[{ on := 4, ground := Ground.guard }], guard := (some (4, true)) } : Oper)) (v := _) rfl (by kernel_rfl) (by kernel_rfl) (by kernel_rfl) (fun _ _ _ h => h) (Or.inr ⟨by rfl, rfl⟩) hHeld ?_
          try simp only [Act.put, List.setIfInBounds_toArray, List.set_cons_zero, List.set_cons_succ]
          refine wpAnyH_take (i := 6) (oi := ({ dst := (some 108), op := (Op.indexAddr 23 (Operand.tmp 12) (Operand.tmp 107)), type := 0, pos := "outright.go:96", after := #[{ on := 5, ground := Ground.data }, { on := 4, ground := Ground.guard }], guard := (some (4, true)) } : Oper)) (v := _) rfl (by kernel_rfl) (by kernel_rfl) (by kernel_rfl) (fun _ _ _ h => h) (Or.inr ⟨by rfl, rfl⟩) hHeld ?_
          try simp only [Act.put, List.setIfInBounds_toArray, List.set_cons_zero, List.set_cons_succ]
          refine wpAnyH_take (i := 7) (oi := ({ dst := (some 109), op := (Op.load 5 (Operand.tmp 108)), type := 5, pos := "outright.go:96", after := #[{ on := 6, ground := Ground.data }, { on := 4, ground := Ground.guard }], guard := (some (4, true)) } : Oper)) (v := _) rfl (by kernel_rfl) (by kernel_rfl) (by kernel_rfl) (fun _ _ _ h => h) (Or.inr ⟨by rfl, rfl⟩) hHeld ?_
          try simp only [Act.put, List.setIfInBounds_toArray, List.set_cons_zero, List.set_cons_succ]
          refine wpAnyH_take (i := 8) (oi := ({ dst := (some 110), op := (Op.move (Operand.tmp 15)), type := 3, pos := "outright.go:96", after := #[{ on := 4, ground := Ground.guard }], guard := (some (4, true)) } : Oper)) (v := _) rfl (by kernel_rfl) (by kernel_rfl) (by kernel_rfl) (fun _ _ _ h => h) (Or.inr ⟨by rfl, rfl⟩) hHeld ?_
          try simp only [Act.put, List.setIfInBounds_toArray, List.set_cons_zero, List.set_cons_succ]
          refine wpAnyH_take (i := 9) (oi := ({ dst := (some 111), op := (Op.indexAddr 23 (Operand.tmp 3) (Operand.tmp 110)), type := 0, pos := "outright.go:96", after := #[{ on := 8, ground := Ground.data }, { on := 4, ground := Ground.guard }], guard := (some (4, true)) } : Oper)) (v := _) rfl (by kernel_rfl) (by kernel_rfl) (by kernel_rfl) (fun _ _ _ h => h) (Or.inr ⟨by rfl, rfl⟩) hHeld ?_
          try simp only [Act.put, List.setIfInBounds_toArray, List.set_cons_zero, List.set_cons_succ]
          refine wpAnyH_take (i := 10) (oi := ({ dst := (some 112), op := (Op.load 5 (Operand.tmp 111)), type := 5, pos := "outright.go:96", after := #[{ on := 9, ground := Ground.data }, { on := 4, ground := Ground.guard }], guard := (some (4, true)) } : Oper)) (v := _) rfl (by kernel_rfl) (by kernel_rfl) (by kernel_rfl) (fun _ _ _ h => h) (Or.inr ⟨by rfl, rfl⟩) hHeld ?_
          try simp only [Act.put, List.setIfInBounds_toArray, List.set_cons_zero, List.set_cons_succ]
          refine wpAnyH_take (i := 11) (oi := ({ dst := (some 113), op := (Op.binOp BinOp.neq 5 (Operand.tmp 109) (Operand.tmp 112) 5), type := 4, pos := "outright.go:96", after := #[{ on := 7, ground := Ground.data }, { on := 10, ground := Ground.data }, { on := 4, ground := Ground.guard }], guard := (some (4, true)) } : Oper)) (v := _) rfl (by kernel_rfl) (by kernel_rfl) (by kernel_rfl) (fun _ _ _ h => h) (Or.inr ⟨by rfl, rfl⟩) hHeld ?_
          try simp only [Act.put, List.setIfInBounds_toArray, List.set_cons_zero, List.set_cons_succ]
          refine wpAnyH_take (i := 12) (oi := ({ dst := (some 114), op := (Op.pick (Operand.tmp 106) (Operand.tmp 113) (Operand.const (Value.bool false))), type := 4, pos := "outright.go:96", after := #[{ on := 4, ground := Ground.data }, { on := 11, ground := Ground.data }], guard := none } : Oper)) (v := ?_) rfl (by kernel_rfl) (by kernel_rfl) (by kernel_rfl) (fun _ _ _ h => h) (Or.inl ⟨by rfl, ?_⟩) hHeld ?_
          rotate_left
          · intro w_ hSw; (try dsimp only at hSw); go_simp; try (with_reducible rfl)
          try simp only [Act.put, List.setIfInBounds_toArray, List.set_cons_zero, List.set_cons_succ]
          refine wpAnyH_done (by kernel_rfl) ?_ _
          go_wp2_with fail
          go_roundg (gk - 1)
          case measure => have := HK.out; have := HC1.out; omega
          case rel => exact ⟨i + 1, x + 1, by simp, ⟨by have := HX.out; omega⟩, ⟨by have := HK.out; have := HC1.out; omega⟩, ⟨HP.out⟩⟩
        · have d9 : (x != qh) = true := bne_iff_ne.2 cx
          have hcy := cellL (HP.out.blk 1 rfl) x p0 (by rw [HYL.out]; exact p1)
          have hci := cellL (HP.out.blk 4 rfl) x p0 (by rw [HL.out]; exact p1)
          have hyo : rd y x = rd id x := by rw [hx]; exact HYO.out i (by have := HQH.out; omega)
          rw [hyo] at hcy
          obtain ⟨v, hv⟩ : ∃ v, rd id x = v := ⟨_, rfl⟩
          rw [hv] at hcy hci
          have HVI := Aside0.mk hv
          have HVY := Aside0.mk (hyo.trans hv)
          clear hx ci cx hyo hv
          have KY := Aside0.mk (fun (w' : World) (h : w'.heap[g_y]? = some (.cells (u8s y).toArray 23 (0, 0))) => (show w'.cell? ⟨g_y, (x).toNat, none⟩ = some (.int .u8 v) from by have h9 := cellL h x (by assumption) (by rw [HYL.out]; assumption); first | (rw [HVY.out] at h9; exact h9)))
          have KI := Aside0.mk (fun (w' : World) (h : w'.heap[g_i]? = some (.cells (u8s id).toArray 23 (0, 0))) => (show w'.cell? ⟨g_i, (x).toNat, none⟩ = some (.int .u8 v) from by have h9 := cellL h x (by assumption) (by rw [HL.out]; assumption); rw [HVI.out] at h9; exact h9))
          clear hcy hci
          go_wp2_with fail
          refine held_named (S := (fun w' => w'.cell? ⟨g_y, (x).toNat, none⟩ = some (.int .u8 v) ∧ w'.cell? ⟨g_i, (x).toNat, none⟩ = some (.int .u8 v))) (by kernel_rfl) (fun wd9 hwd9 => ?_)
          have HPn := Aside0.mk (HP.out.drewN 1)
          rw [← World.drew_is_drewN, hwd9] at HPn
          clear HP hwd9
          have HP := HPn
          clear HPn
          refine ⟨by (try dsimp only); exact ⟨KY.out _ (HP.out.blk 1 rfl), KI.out _ (HP.out.blk 4 rfl)⟩, fun hHeld => ?_⟩
          refine wpAnyH_take (i := 0) (oi := ({ dst := (some 102), op := (Op.move (Operand.tmp 15)), type := 3, pos := "outright.go:96", after := #[], guard := none } : Oper)) (v := ?_) rfl (by kernel_rfl) (by kernel_rfl) (by kernel_rfl) (fun _ _ _ h => h) (Or.inl ⟨by rfl, ?_⟩) hHeld ?_
          rotate_left
          · intro w_ hSw; (try dsimp only at hSw); go_simp; try (with_reducible rfl)
          try simp only [Act.put, List.setIfInBounds_toArray, List.set_cons_zero, List.set_cons_succ]
          refine wpAnyH_take (i := 1) (oi := ({ dst := (some 103), op := (Op.move (Operand.tmp 1)), type := 3, pos := "outright.go:96", after := #[], guard := none } : Oper)) (v := ?_) rfl (by kernel_rfl) (by kernel_rfl) (by kernel_rfl) (fun _ _ _ h => h) (Or.inl ⟨by rfl, ?_⟩) hHeld ?_
          rotate_left
          · intro w_ hSw; (try dsimp only at hSw); go_simp; try (with_reducible rfl)
          try simp only [Act.put, List.setIfInBounds_toArray, List.set_cons_zero, List.set_cons_succ]
          refine wpAnyH_take (i := 2) (oi := ({ dst := (some 104), op := (Op.binOp BinOp.quo 3 (Operand.tmp 103) (Operand.const (Value.int IntKind.i64 2)) 3), type := 3, pos := "outright.go:96", after := #[{ on := 1, ground := Ground.data }], guard := none } : Oper)) (v := ?_) rfl (by kernel_rfl) (by kernel_rfl) (by kernel_rfl) (fun _ _ _ h => h) (Or.inl ⟨by rfl, ?_⟩) hHeld ?_
          rotate_left
          · intro w_ hSw; (try dsimp only at hSw); go_simp; try (with_reducible rfl)
          try simp only [Act.put, List.setIfInBounds_toArray, List.set_cons_zero, List.set_cons_succ]
          refine wpAnyH_take (i := 3) (oi := ({ dst := (some 105), op := (Op.binOp BinOp.neq 3 (Operand.tmp 102) (Operand.tmp 104) 3), type := 4, pos := "outright.go:96", after := #[{ on := 0, ground := Ground.data }, { on := 2, ground := Ground.data }], guard := none } : Oper)) (v := ?_) rfl (by kernel_rfl) (by kernel_rfl) (by kernel_rfl) (fun _ _ _ h => h) (Or.inl ⟨by rfl, ?_⟩) hHeld ?_
          rotate_left
          · intro w_ hSw; (try dsimp only at hSw); go_simp; try (with_reducible rfl)
          try simp only [Act.put, List.setIfInBounds_toArray, List.set_cons_zero, List.set_cons_succ]
          refine wpAnyH_take (i := 4) (oi := ({ dst := (some 106), op := (Op.move (Operand.tmp 105)), type := 4, pos := "outright.go:96", after := #[{ on := 3, ground := Ground.data }], guard := none } : Oper)) (v := ?_) rfl (by kernel_rfl) (by kernel_rfl) (by kernel_rfl) (fun _ _ _ h => h) (Or.inl ⟨by rfl, ?_⟩) hHeld ?_
          rotate_left
          · intro w_ hSw; (try dsimp only at hSw); go_simp; try (with_reducible rfl)
          try simp only [Act.put, List.setIfInBounds_toArray, List.set_cons_zero, List.set_cons_succ]
          refine wpAnyH_take (i := 5) (oi := ({ dst := (some 107), op := (Op.move (Operand.tmp 15)), type := 3, pos := "outright.go:96", after := #[{ on := 4, ground := Ground.guard }], guard := (some (4, true)) } : Oper)) (v := ?_) rfl (by kernel_rfl) (by kernel_rfl) (by kernel_rfl) (fun _ _ _ h => h) (Or.inl ⟨by rfl, ?_⟩) hHeld ?_
          rotate_left
          · intro w_ hSw; (try dsimp only at hSw); go_simp; try (with_reducible rfl)
          try simp only [Act.put, List.setIfInBounds_toArray, List.set_cons_zero, List.set_cons_succ]
          refine wpAnyH_take (i := 6) (oi := ({ dst := (some 108), op := (Op.indexAddr 23 (Operand.tmp 12) (Operand.tmp 107)), type := 0, pos := "outright.go:96", after := #[{ on := 5, ground := Ground.data }, { on := 4, ground := Ground.guard }], guard := (some (4, true)) } : Oper)) (v := ?_) rfl (by kernel_rfl) (by kernel_rfl) (by kernel_rfl) (fun _ _ _ h => h) (Or.inl ⟨by rfl, ?_⟩) hHeld ?_
          rotate_left
          · intro w_ hSw; (try dsimp only at hSw); go_simp; try (with_reducible rfl)
          try simp only [Act.put, List.setIfInBounds_toArray, List.set_cons_zero, List.set_cons_succ]
          refine wpAnyH_take (i := 7) (oi := ({ dst := (some 109), op := (Op.load 5 (Operand.tmp 108)), type := 5, pos := "outright.go:96", after := #[{ on := 6, ground := Ground.data }, { on := 4, ground := Ground.guard }], guard := (some (4, true)) } : Oper)) (v := ?_) rfl (by kernel_rfl) (by kernel_rfl) (by kernel_rfl) (fun _ _ _ h => h) (Or.inl ⟨by rfl, ?_⟩) hHeld ?_
          rotate_left
          · intro w_ hSw; (try dsimp only at hSw); go_simp; try (with_reducible rfl)
          try simp only [Act.put, List.setIfInBounds_toArray, List.set_cons_zero, List.set_cons_succ]
          refine wpAnyH_take (i := 8) (oi := ({ dst := (some 110), op := (Op.move (Operand.tmp 15)), type := 3, pos := "outright.go:96", after := #[{ on := 4, ground := Ground.guard }], guard := (some (4, true)) } : Oper)) (v := ?_) rfl (by kernel_rfl) (by kernel_rfl) (by kernel_rfl) (fun _ _ _ h => h) (Or.inl ⟨by rfl, ?_⟩) hHeld ?_
          rotate_left
          · intro w_ hSw; (try dsimp only at hSw); go_simp; try (with_reducible rfl)
          try simp only [Act.put, List.setIfInBounds_toArray, List.set_cons_zero, List.set_cons_succ]
          refine wpAnyH_take (i := 9) (oi := ({ dst := (some 111), op := (Op.indexAddr 23 (Operand.tmp 3) (Operand.tmp 110)), type := 0, pos := "outright.go:96", after := #[{ on := 8, ground := Ground.data }, { on := 4, ground := Ground.guard }], guard := (some (4, true)) } : Oper)) (v := ?_) rfl (by kernel_rfl) (by kernel_rfl) (by kernel_rfl) (fun _ _ _ h => h) (Or.inl ⟨by rfl, ?_⟩) hHeld ?_
          rotate_left
          · intro w_ hSw; (try dsimp only at hSw); go_simp; try (with_reducible rfl)
          try simp only [Act.put, List.setIfInBounds_toArray, List.set_cons_zero, List.set_cons_succ]
          refine wpAnyH_take (i := 10) (oi := ({ dst := (some 112), op := (Op.load 5 (Operand.tmp 111)), type := 5, pos := "outright.go:96", after := #[{ on := 9, ground := Ground.data }, { on := 4, ground := Ground.guard }], guard := (some (4, true)) } : Oper)) (v := ?_) rfl (by kernel_rfl) (by kernel_rfl) (by kernel_rfl) (fun _ _ _ h => h) (Or.inl ⟨by rfl, ?_⟩) hHeld ?_
          rotate_left
          · intro w_ hSw; (try dsimp only at hSw); go_simp; try (with_reducible rfl)
          try simp only [Act.put, List.setIfInBounds_toArray, List.set_cons_zero, List.set_cons_succ]
          refine wpAnyH_take (i := 11) (oi := ({ dst := (some 113), op := (Op.binOp BinOp.neq 5 (Operand.tmp 109) (Operand.tmp 112) 5), type := 4, pos := "outright.go:96", after := #[{ on := 7, ground := Ground.data }, { on := 10, ground := Ground.data }, { on := 4, ground := Ground.guard }], guard := (some (4, true)) } : Oper)) (v := ?_) rfl (by kernel_rfl) (by kernel_rfl) (by kernel_rfl) (fun _ _ _ h => h) (Or.inl ⟨by rfl, ?_⟩) hHeld ?_
          rotate_left
          · intro w_ hSw; (try dsimp only at hSw); go_simp; try (with_reducible rfl)
          try simp only [Act.put, List.setIfInBounds_toArray, List.set_cons_zero, List.set_cons_succ]
          refine wpAnyH_take (i := 12) (oi := ({ dst := (some 114), op := (Op.pick (Operand.tmp 106) (Operand.tmp 113) (Operand.const (Value.bool false))), type := 4, pos := "outright.go:96", after := #[{ on := 4, ground := Ground.data }, { on := 11, ground := Ground.data }], guard := none } : Oper)) (v := ?_) rfl (by kernel_rfl) (by kernel_rfl) (by kernel_rfl) (fun _ _ _ h => h) (Or.inl ⟨by rfl, ?_⟩) hHeld ?_
          rotate_left
          · intro w_ hSw; (try dsimp only at hSw); go_simp; try (with_reducible rfl)
          try simp only [Act.put, List.setIfInBounds_toArray, List.set_cons_zero, List.set_cons_succ]
          refine wpAnyH_done (by kernel_rfl) ?_ _
          go_wp2_with fail
          go_roundg (gk - 1)
          case measure => have := HK.out; have := HC1.out; omega
          case rel => exact ⟨i + 1, x + 1, by simp, ⟨by have := HX.out; omega⟩, ⟨by have := HK.out; have := HC1.out; omega⟩, ⟨HP.out⟩⟩
      · have dx : decide (x < 32) = false := decide_eq_false (by omega)
        obtain ⟨z, hz⟩ : ∃ z, qi % 2 = z := ⟨_, rfl⟩
        have ez : Int.tmod qi 2 = z := by rw [Int.tmod_eq_emod_of_nonneg (by omega)]; exact hz
        have hcy := cellL (HP.out.blk 1 rfl) qh h0 (by rw [HYL.out]; exact h1)
        have hci := cellL (HP.out.blk 4 rfl) qh h0 (by rw [HL.out]; exact h1)
        have hyb := rd_byte HYB.out qh
        have hib := rd_byte HBY.out qh
        have hy0 := HY0.out
        have hy1 := HY1.out
        rw [← HQH.out] at hy0 hy1
        obtain ⟨ya, hya⟩ : ∃ v, rd y qh = v := ⟨_, rfl⟩
        obtain ⟨yi, hyi⟩ : ∃ v, rd id qh = v := ⟨_, rfl⟩
        have HVY := Aside0.mk hya
        have HVI := Aside0.mk hyi
        rw [hya] at hcy hyb hy0 hy1
        rw [hyi] at hci hib hy0 hy1
        by_cases cz : z = 0
        · have d9 : (z == 0) = true := beq_iff_eq.2 cz
          have h2 := hy0 (by have := HQI.out; omega)
          obtain ⟨m, hm⟩ : ∃ m, yi % 16 = m := ⟨_, rfl⟩
          rw [hm] at h2
          have t1 : Int.tmod ya 16 = m := by rw [Int.tmod_eq_emod_of_nonneg (by omega)]; exact h2
          have t2 : Int.tmod yi 16 = m := by rw [Int.tmod_eq_emod_of_nonneg (by omega)]; exact hm
          clear hx ci cz hy0 hy1 hyb hib hya hyi hz
          have KY := Aside0.mk (fun (w' : World) (h : w'.heap[g_y]? = some (.cells (u8s y).toArray 23 (0, 0))) => (show w'.cell? ⟨g_y, (qh).toNat, none⟩ = some (.int .u8 ya) from by have h9 := cellL h qh (by assumption) (by rw [HYL.out]; assumption); first | (rw [HVY.out] at h9; exact h9)))
          have KI := Aside0.mk (fun (w' : World) (h : w'.heap[g_i]? = some (.cells (u8s id).toArray 23 (0, 0))) => (show w'.cell? ⟨g_i, (qh).toNat, none⟩ = some (.int .u8 yi) from by have h9 := cellL h qh (by assumption) (by rw [HL.out]; assumption); rw [HVI.out] at h9; exact h9))
          clear hcy hci
          go_wp2_with fail
          refine held_named (S := (fun w' => w'.cell? ⟨g_y, (qh).toNat, none⟩ = some (.int .u8 ya) ∧ w'.cell? ⟨g_i, (qh).toNat, none⟩ = some (.int .u8 yi))) (by kernel_rfl) (fun wd9 hwd9 => ?_)
          have HPn := Aside0.mk (HP.out.drewN 1)
          rw [← World.drew_is_drewN, hwd9] at HPn
          clear HP hwd9
          have HP := HPn
          clear HPn
          refine ⟨by (try dsimp only); exact ⟨KY.out _ (HP.out.blk 1 rfl), KI.out _ (HP.out.blk 4 rfl)⟩, fun hHeld => ?_⟩
          refine wpAnyH_take (i := 0) (oi := ({ dst := (some 118), op := (Op.move (Operand.tmp 7)), type := 4, pos := "outright.go:101", after := #[], guard := none } : Oper)) (v := ?_) rfl (by kernel_rfl) (by kernel_rfl) (by kernel_rfl) (fun _ _ _ h => h) (Or.inl ⟨by rfl, ?_⟩) hHeld ?_
          rotate_left
          · intro w_ hSw; (try dsimp only at hSw); go_simp; try (with_reducible rfl)
          try simp only [Act.put, List.setIfInBounds_toArray, List.set_cons_zero, List.set_cons_succ]
          refine wpAnyH_take (i := 1) (oi := ({ dst := (some 119), op := (Op.move (Operand.tmp 118)), type := 4, pos := "outright.go:101", after := #[{ on := 0, ground := Ground.data }], guard := none } : Oper)) (v := ?_) rfl (by kernel_rfl) (by kernel_rfl) (by kernel_rfl) (fun _ _ _ h => h) (Or.inl ⟨by rfl, ?_⟩) hHeld ?_
          rotate_left
          · intro w_ hSw; (try dsimp only at hSw); go_simp; try (with_reducible rfl)
          try simp only [Act.put, List.setIfInBounds_toArray, List.set_cons_zero, List.set_cons_succ]
          refine wpAnyH_take (i := 2) (oi := ({ dst := (some 120), op := (Op.move (Operand.tmp 1)), type := 3, pos := "outright.go:101", after := #[{ on := 1, ground := Ground.guard }], guard := (some (1, true)) } : Oper)) (v := ?_) rfl (by kernel_rfl) (by kernel_rfl) (by kernel_rfl) (fun _ _ _ h => h) (Or.inl ⟨by rfl, ?_⟩) hHeld ?_
          rotate_left
          · intro w_ hSw; (try dsimp only at hSw); go_simp; try (with_reducible rfl)
          try simp only [Act.put, List.setIfInBounds_toArray, List.set_cons_zero, List.set_cons_succ]
          refine wpAnyH_take (i := 3) (oi := ({ dst := (some 121), op := (Op.binOp BinOp.quo 3 (Operand.tmp 120) (Operand.const (Value.int IntKind.i64 2)) 3), type := 3, pos := "outright.go:101", after := #[{ on := 2, ground := Ground.data }, { on := 1, ground := Ground.guard }], guard := (some (1, true)) } : Oper)) (v := ?_) rfl (by kernel_rfl) (by kernel_rfl) (by kernel_rfl) (fun _ _ _ h => h) (Or.inl ⟨by rfl, ?_⟩) hHeld ?_
          rotate_left
          · intro w_ hSw; (try dsimp only at hSw); go_simp; try (with_reducible rfl)
          try simp only [Act.put, List.setIfInBounds_toArray, List.set_cons_zero, List.set_cons_succ]
          refine wpAnyH_take (i := 4) (oi := ({ dst := (some 122), op := (Op.indexAddr 23 (Operand.tmp 12) (Operand.tmp 121)), type := 0, pos := "outright.go:101", after := #[{ on := 3, ground := Ground.data }, { on := 1, ground := Ground.guard }], guard := (some (1, true)) } : Oper)) (v := ?_) rfl (by kernel_rfl) (by kernel_rfl) (by kernel_rfl) (fun _ _ _ h => h) (Or.inl ⟨by rfl, ?_⟩) hHeld ?_
          rotate_left
          · intro w_ hSw; (try dsimp only at hSw); go_simp; try (with_reducible rfl)
          try simp only [Act.put, List.setIfInBounds_toArray, List.set_cons_zero, List.set_cons_succ]
          refine wpAnyH_take (i := 5) (oi := ({ dst := (some 123), op := (Op.load 5 (Operand.tmp 122)), type := 5, pos := "outright.go:101", after := #[{ on := 4, ground := Ground.data }, { on := 1, ground := Ground.guard }], guard := (some (1, true)) } : Oper)) (v := ?_) rfl (by kernel_rfl) (by kernel_rfl) (by kernel_rfl) (fun _ _ _ h => h) (Or.inl ⟨by rfl, ?_⟩) hHeld ?_
          rotate_left
          · intro w_ hSw; (try dsimp only at hSw); go_simp; try (with_reducible rfl)
          try simp only [Act.put, List.setIfInBounds_toArray, List.set_cons_zero, List.set_cons_succ]
          refine wpAnyH_take (i := 6) (oi := ({ dst := (some 124), op := (Op.binOp BinOp.rem 5 (Operand.tmp 123) (Operand.const (Value.int IntKind.u8 16)) 5), type := 5, pos := "outright.go:101", after := #[{ on := 5, ground := Ground.data }, { on := 1, ground := Ground.guard }], guard := (some (1, true)) } : Oper)) (v := ?_) rfl (by kernel_rfl) (by kernel_rfl) (by kernel_rfl) (fun _ _ _ h => h) (Or.inl ⟨by rfl, ?_⟩) hHeld ?_
          rotate_left
          · intro w_ hSw; (try dsimp only at hSw); go_simp; try (with_reducible rfl)
          try simp only [Act.put, List.setIfInBounds_toArray, List.set_cons_zero, List.set_cons_succ]
          refine wpAnyH_take (i := 7) (oi := ({ dst := (some 125), op := (Op.move (Operand.tmp 1)), type := 3, pos := "outright.go:101", after := #[{ on := 1, ground := Ground.guard }], guard := (some (1, true)) } : Oper)) (v := ?_) rfl (by kernel_rfl) (by kernel_rfl) (by kernel_rfl) (fun _ _ _ h => h) (Or.inl ⟨by rfl, ?_⟩) hHeld ?_
          rotate_left
          · intro w_ hSw; (try dsimp only at hSw); go_simp; try (with_reducible rfl)
          try simp only [Act.put, List.setIfInBounds_toArray, List.set_cons_zero, List.set_cons_succ]
          refine wpAnyH_take (i := 8) (oi := ({ dst := (some 126), op := (Op.binOp BinOp.quo 3 (Operand.tmp 125) (Operand.const (Value.int IntKind.i64 2)) 3), type := 3, pos := "outright.go:101", after := #[{ on := 7, ground := Ground.data }, { on := 1, ground := Ground.guard }], guard := (some (1, true)) } : Oper)) (v := ?_) rfl (by kernel_rfl) (by kernel_rfl) (by kernel_rfl) (fun _ _ _ h => h) (Or.inl ⟨by rfl, ?_⟩) hHeld ?_
          rotate_left
          · intro w_ hSw; (try dsimp only at hSw); go_simp; try (with_reducible rfl)
          try simp only [Act.put, List.setIfInBounds_toArray, List.set_cons_zero, List.set_cons_succ]
          refine wpAnyH_take (i := 9) (oi := ({ dst := (some 127), op := (Op.indexAddr 23 (Operand.tmp 3) (Operand.tmp 126)), type := 0, pos := "outright.go:101", after := #[{ on := 8, ground := Ground.data }, { on := 1, ground := Ground.guard }], guard := (some (1, true)) } : Oper)) (v := ?_) rfl (by kernel_rfl) (by kernel_rfl) (by kernel_rfl) (fun _ _ _ h => h) (Or.inl ⟨by rfl, ?_⟩) hHeld ?_
          rotate_left
          · intro w_ hSw; (try dsimp only at hSw); go_simp; try (with_reducible rfl)
          try simp only [Act.put, List.setIfInBounds_toArray, List.set_cons_zero, List.set_cons_succ]
          refine wpAnyH_take (i := 10) (oi := ({ dst := (some 128), op := (Op.load 5 (Operand.tmp 127)), type := 5, pos := "outright.go:101", after := #[{ on := 9, ground := Ground.data }, { on := 1, ground := Ground.guard }], guard := (some (1, true)) } : Oper)) (v := ?_) rfl (by kernel_rfl) (by kernel_rfl) (by kernel_rfl) (fun _ _ _ h => h) (Or.inl ⟨by rfl, ?_⟩) hHeld ?_
          rotate_left
          · intro w_ hSw; (try dsimp only at hSw); go_simp; try (with_reducible rfl)
          try simp only [Act.put, List.setIfInBounds_toArray, List.set_cons_zero, List.set_cons_succ]
          refine wpAnyH_take (i := 11) (oi := ({ dst := (some 129), op := (Op.binOp BinOp.rem 5 (Operand.tmp 128) (Operand.const (Value.int IntKind.u8 16)) 5), type := 5, pos := "outright.go:101", after := #[{ on := 10, ground := Ground.data }, { on := 1, ground := Ground.guard }], guard := (some (1, true)) } : Oper)) (v := ?_) rfl (by kernel_rfl) (by kernel_rfl) (by kernel_rfl) (fun _ _ _ h => h) (Or.inl ⟨by rfl, ?_⟩) hHeld ?_
          rotate_left
          · intro w_ hSw; (try dsimp only at hSw); go_simp; try (with_reducible rfl)
          try simp only [Act.put, List.setIfInBounds_toArray, List.set_cons_zero, List.set_cons_succ]
          refine wpAnyH_take (i := 12) (oi := ({ dst := (some 130), op := (Op.binOp BinOp.eql 5 (Operand.tmp 124) (Operand.tmp 129) 5), type := 4, pos := "outright.go:101", after := #[{ on := 6, ground := Ground.data }, { on := 11, ground := Ground.data }, { on := 1, ground := Ground.guard }], guard := (some (1, true)) } : Oper)) (v := ?_) rfl (by kernel_rfl) (by kernel_rfl) (by kernel_rfl) (fun _ _ _ h => h) (Or.inl ⟨by rfl, ?_⟩) hHeld ?_
          rotate_left
          · intro w_ hSw; (try dsimp only at hSw); go_simp; try (with_reducible rfl)
          try simp only [Act.put, List.setIfInBounds_toArray, List.set_cons_zero, List.set_cons_succ]
          refine wpAnyH_take (i := 13) (oi := ({ dst := (some 131), op := (Op.pick (Operand.tmp 119) (Operand.tmp 130) (Operand.const (Value.bool false))), type := 4, pos := "outright.go:101", after := #[{ on := 1, ground := Ground.data }, { on := 12, ground := Ground.data }], guard := none } : Oper)) (v := ?_) rfl (by kernel_rfl) (by kernel_rfl) (by kernel_rfl) (fun _ _ _ h => h) (Or.inl ⟨by rfl, ?_⟩) hHeld ?_
          rotate_left
          · intro w_ hSw; (try dsimp only at hSw); go_simp; try (with_reducible rfl)
          try simp only [Act.put, List.setIfInBounds_toArray, List.set_cons_zero, List.set_cons_succ]
          refine wpAnyH_take (i := 14) (oi := ({ dst := (some 6), op := (Op.assign (Operand.tmp 131)), type := 4, pos := "outright.go:101", after := #[{ on := 13, ground := Ground.data }, { on := 1, ground := Ground.chain }, { on := 0, ground := Ground.phase }, { on := 1, ground := Ground.phase }, { on := 2, ground := Ground.phase }, { on := 3, ground := Ground.phase }, { on := 4, ground := Ground.phase }, { on := 5, ground := Ground.phase }, { on := 6, ground := Ground.phase }, { on := 7, ground := Ground.phase }, { on := 8, ground := Ground.phase }, { on := 9, ground := Ground.phase }, { on := 10, ground := Ground.phase }, { on := 11, ground := Ground.phase }, { on := 12, ground := Ground.phase }, { on := 13, ground := Ground.phase }], guard := none } : Oper)) (v := ?_) rfl (by kernel_rfl) (by kernel_rfl) (by kernel_rfl) (fun _ _ _ h => h) (Or.inl ⟨by rfl, ?_⟩) hHeld ?_
          rotate_left
          · intro w_ hSw; (try dsimp only at hSw); go_simp; try (with_reducible rfl)
          try simp only [Act.put, List.setIfInBounds_toArray, List.set_cons_zero, List.set_cons_succ]
          refine wpAnyH_done (by kernel_rfl) ?_ _
          go_wp2_with fail
          go_ret
          exact ⟨rfl, HP.out.below⟩
        · have d9 : (z == 0) = false := beq_eq_false_iff_ne.2 cz
          have h2 := hy1 (by have := HQI.out; omega)
          obtain ⟨m, hm⟩ : ∃ m, yi / 16 = m := ⟨_, rfl⟩
          rw [hm] at h2
          have t1 : Int.tdiv ya 16 = m := by rw [Int.tdiv_eq_ediv_of_nonneg (by omega)]; exact h2
          have t2 : Int.tdiv yi 16 = m := by rw [Int.tdiv_eq_ediv_of_nonneg (by omega)]; exact hm
          have t3 : IntKind.u8.wrap m = m := by rw [IntKind.wrap_u8]; omega
          clear hx ci cz hy0 hy1 hyb hib hya hyi hz
          have KY := Aside0.mk (fun (w' : World) (h : w'.heap[g_y]? = some (.cells (u8s y).toArray 23 (0, 0))) => (show w'.cell? ⟨g_y, (qh).toNat, none⟩ = some (.int .u8 ya) from by have h9 := cellL h qh (by assumption) (by rw [HYL.out]; assumption); first | (rw [HVY.out] at h9; exact h9)))
          have KI := Aside0.mk (fun (w' : World) (h : w'.heap[g_i]? = some (.cells (u8s id).toArray 23 (0, 0))) => (show w'.cell? ⟨g_i, (qh).toNat, none⟩ = some (.int .u8 yi) from by have h9 := cellL h qh (by assumption) (by rw [HL.out]; assumption); rw [HVI.out] at h9; exact h9))
          clear hcy hci
          go_wp2_with fail
          refine held_named (S := (fun w' => w'.cell? ⟨g_y, (qh).toNat, none⟩ = some (.int .u8 ya) ∧ w'.cell? ⟨g_i, (qh).toNat, none⟩ = some (.int .u8 yi))) (by kernel_rfl) (fun wd9 hwd9 => ?_)
          have HPn := Aside0.mk (HP.out.drewN 1)
          rw [← World.drew_is_drewN, hwd9] at HPn
          clear HP hwd9
          have HP := HPn
          clear HPn
          refine ⟨by (try dsimp only); exact ⟨KY.out _ (HP.out.blk 1 rfl), KI.out _ (HP.out.blk 4 rfl)⟩, fun hHeld => ?_⟩
          refine wpAnyH_take (i := 0) (oi := ({ dst := (some 132), op := (Op.move (Operand.tmp 7)), type := 4, pos := "outright.go:103", after := #[], guard := none } : Oper)) (v := ?_) rfl (by kernel_rfl) (by kernel_rfl) (by kernel_rfl) (fun _ _ _ h => h) (Or.inl ⟨by rfl, ?_⟩) hHeld ?_
          rotate_left
          · intro w_ hSw; (try dsimp only at hSw); go_simp; try (with_reducible rfl)
          try simp only [Act.put, List.setIfInBounds_toArray, List.set_cons_zero, List.set_cons_succ]
          refine wpAnyH_take (i := 1) (oi := ({ dst := (some 133), op := (Op.move (Operand.tmp 132)), type := 4, pos := "outright.go:103", after := #[{ on := 0, ground := Ground.data }], guard := none } : Oper)) (v := ?_) rfl (by kernel_rfl) (by kernel_rfl) (by kernel_rfl) (fun _ _ _ h => h) (Or.inl ⟨by rfl, ?_⟩) hHeld ?_
          rotate_left
          · intro w_ hSw; (try dsimp only at hSw); go_simp; try (with_reducible rfl)
          try simp only [Act.put, List.setIfInBounds_toArray, List.set_cons_zero, List.set_cons_succ]
          refine wpAnyH_take (i := 2) (oi := ({ dst := (some 134), op := (Op.move (Operand.tmp 1)), type := 3, pos := "outright.go:103", after := #[{ on := 1, ground := Ground.guard }], guard := (some (1, true)) } : Oper)) (v := ?_) rfl (by kernel_rfl) (by kernel_rfl) (by kernel_rfl) (fun _ _ _ h => h) (Or.inl ⟨by rfl, ?_⟩) hHeld ?_
          rotate_left
          · intro w_ hSw; (try dsimp only at hSw); go_simp; try (with_reducible rfl)
          try simp only [Act.put, List.setIfInBounds_toArray, List.set_cons_zero, List.set_cons_succ]
          refine wpAnyH_take (i := 3) (oi := ({ dst := (some 135), op := (Op.binOp BinOp.quo 3 (Operand.tmp 134) (Operand.const (Value.int IntKind.i64 2)) 3), type := 3, pos := "outright.go:103", after := #[{ on := 2, ground := Ground.data }, { on := 1, ground := Ground.guard }], guard := (some (1, true)) } : Oper)) (v := ?_) rfl (by kernel_rfl) (by kernel_rfl) (by kernel_rfl) (fun _ _ _ h => h) (Or.inl ⟨by rfl, ?_⟩) hHeld ?_
          rotate_left
          · intro w_ hSw; (try dsimp only at hSw); go_simp; try (with_reducible rfl)
          try simp only [Act.put, List.setIfInBounds_toArray, List.set_cons_zero, List.set_cons_succ]
          refine wpAnyH_take (i := 4) (oi := ({ dst := (some 136), op := (Op.indexAddr 23 (Operand.tmp 12) (Operand.tmp 135)), type := 0, pos := "outright.go:103", after := #[{ on := 3, ground := Ground.data }, { on := 1, ground := Ground.guard }], guard := (some (1, true)) } : Oper)) (v := ?_) rfl (by kernel_rfl) (by kernel_rfl) (by kernel_rfl) (fun _ _ _ h => h) (Or.inl ⟨by rfl, ?_⟩) hHeld ?_
          rotate_left
          · intro w_ hSw; (try dsimp only at hSw); go_simp; try (with_reducible rfl)
          try simp only [Act.put, List.setIfInBounds_toArray, List.set_cons_zero, List.set_cons_succ]
          refine wpAnyH_take (i := 5) (oi := ({ dst := (some 137), op := (Op.load 5 (Operand.tmp 136)), type := 5, pos := "outright.go:103", after := #[{ on := 4, ground := Ground.data }, { on := 1, ground := Ground.guard }], guard := (some (1, true)) } : Oper)) (v := ?_) rfl (by kernel_rfl) (by kernel_rfl) (by kernel_rfl) (fun _ _ _ h => h) (Or.inl ⟨by rfl, ?_⟩) hHeld ?_
          rotate_left
          · intro w_ hSw; (try dsimp only at hSw); go_simp; try (with_reducible rfl)
          try simp only [Act.put, List.setIfInBounds_toArray, List.set_cons_zero, List.set_cons_succ]
          refine wpAnyH_take (i := 6) (oi := ({ dst := (some 138), op := (Op.binOp BinOp.quo 5 (Operand.tmp 137) (Operand.const (Value.int IntKind.u8 16)) 5), type := 5, pos := "outright.go:103", after := #[{ on := 5, ground := Ground.data }, { on := 1, ground := Ground.guard }], guard := (some (1, true)) } : Oper)) (v := ?_) rfl (by kernel_rfl) (by kernel_rfl) (by kernel_rfl) (fun _ _ _ h => h) (Or.inl ⟨by rfl, ?_⟩) hHeld ?_
          rotate_left
          · intro w_ hSw; (try dsimp only at hSw); go_simp; try (with_reducible rfl)
          try simp only [Act.put, List.setIfInBounds_toArray, List.set_cons_zero, List.set_cons_succ]
          refine wpAnyH_take (i := 7) (oi := ({ dst := (some 139), op := (Op.move (Operand.tmp 1)), type := 3, pos := "outright.go:103", after := #[{ on := 1, ground := Ground.guard }], guard := (some (1, true)) } : Oper)) (v := ?_) rfl (by kernel_rfl) (by kernel_rfl) (by kernel_rfl) (fun _ _ _ h => h) (Or.inl ⟨by rfl, ?_⟩) hHeld ?_
          rotate_left
          · intro w_ hSw; (try dsimp only at hSw); go_simp; try (with_reducible rfl)
          try simp only [Act.put, List.setIfInBounds_toArray, List.set_cons_zero, List.set_cons_succ]
          refine wpAnyH_take (i := 8) (oi := ({ dst := (some 140), op := (Op.binOp BinOp.quo 3 (Operand.tmp 139) (Operand.const (Value.int IntKind.i64 2)) 3), type := 3, pos := "outright.go:103", after := #[{ on := 7, ground := Ground.data }, { on := 1, ground := Ground.guard }], guard := (some (1, true)) } : Oper)) (v := ?_) rfl (by kernel_rfl) (by kernel_rfl) (by kernel_rfl) (fun _ _ _ h => h) (Or.inl ⟨by rfl, ?_⟩) hHeld ?_
          rotate_left
          · intro w_ hSw; (try dsimp only at hSw); go_simp; try (with_reducible rfl)
          try simp only [Act.put, List.setIfInBounds_toArray, List.set_cons_zero, List.set_cons_succ]
          refine wpAnyH_take (i := 9) (oi := ({ dst := (some 141), op := (Op.indexAddr 23 (Operand.tmp 3) (Operand.tmp 140)), type := 0, pos := "outright.go:103", after := #[{ on := 8, ground := Ground.data }, { on := 1, ground := Ground.guard }], guard := (some (1, true)) } : Oper)) (v := ?_) rfl (by kernel_rfl) (by kernel_rfl) (by kernel_rfl) (fun _ _ _ h => h) (Or.inl ⟨by rfl, ?_⟩) hHeld ?_
          rotate_left
          · intro w_ hSw; (try dsimp only at hSw); go_simp; try (with_reducible rfl)
          try simp only [Act.put, List.setIfInBounds_toArray, List.set_cons_zero, List.set_cons_succ]
          refine wpAnyH_take (i := 10) (oi := ({ dst := (some 142), op := (Op.load 5 (Operand.tmp 141)), type := 5, pos := "outright.go:103", after := #[{ on := 9, ground := Ground.data }, { on := 1, ground := Ground.guard }], guard := (some (1, true)) } : Oper)) (v := ?_) rfl (by kernel_rfl) (by kernel_rfl) (by kernel_rfl) (fun _ _ _ h => h) (Or.inl ⟨by rfl, ?_⟩) hHeld ?_
          rotate_left
          · intro w_ hSw; (try dsimp only at hSw); go_simp; try (with_reducible rfl)
          try simp only [Act.put, List.setIfInBounds_toArray, List.set_cons_zero, List.set_cons_succ]
          refine wpAnyH_take (i := 11) (oi := ({ dst := (some 143), op := (Op.binOp BinOp.quo 5 (Operand.tmp 142) (Operand.const (Value.int IntKind.u8 16)) 5), type := 5, pos := "outright.go:103", after := #[{ on := 10, ground := Ground.data }, { on := 1, ground := Ground.guard }], guard := (some (1, true)) } : Oper)) (v := ?_) rfl (by kernel_rfl) (by kernel_rfl) (by kernel_rfl) (fun _ _ _ h => h) (Or.inl ⟨by rfl, ?_⟩) hHeld ?_
          rotate_left
          · intro w_ hSw; (try dsimp only at hSw); go_simp; try (with_reducible rfl)
          try simp only [Act.put, List.setIfInBounds_toArray, List.set_cons_zero, List.set_cons_succ]
          refine wpAnyH_take (i := 12) (oi := ({ dst := (some 144), op := (Op.binOp BinOp.eql 5 (Operand.tmp 138) (Operand.tmp 143) 5), type := 4, pos := "outright.go:103", after := #[{ on := 6, ground := Ground.data }, { on := 11, ground := Ground.data }, { on := 1, ground := Ground.guard }], guard := (some (1, true)) } : Oper)) (v := ?_) rfl (by kernel_rfl) (by kernel_rfl) (by kernel_rfl) (fun _ _ _ h => h) (Or.inl ⟨by rfl, ?_⟩) hHeld ?_
          rotate_left
          · intro w_ hSw; (try dsimp only at hSw); go_simp; try (with_reducible rfl)
          try simp only [Act.put, List.setIfInBounds_toArray, List.set_cons_zero, List.set_cons_succ]
          refine wpAnyH_take (i := 13) (oi := ({ dst := (some 145), op := (Op.pick (Operand.tmp 133) (Operand.tmp 144) (Operand.const (Value.bool false))), type := 4, pos := "outright.go:103", after := #[{ on := 1, ground := Ground.data }, { on := 12, ground := Ground.data }], guard := none } : Oper)) (v := ?_) rfl (by kernel_rfl) (by kernel_rfl) (by kernel_rfl) (fun _ _ _ h => h) (Or.inl ⟨by rfl, ?_⟩) hHeld ?_
          rotate_left
          · intro w_ hSw; (try dsimp only at hSw); go_simp; try (with_reducible rfl)
          try simp only [Act.put, List.setIfInBounds_toArray, List.set_cons_zero, List.set_cons_succ]
          refine wpAnyH_take (i := 14) (oi := ({ dst := (some 6), op := (Op.assign (Operand.tmp 145)), type := 4, pos := "outright.go:103", after := #[{ on := 13, ground := Ground.data }, { on := 1, ground := Ground.chain }, { on := 0, ground := Ground.phase }, { on := 1, ground := Ground.phase }, { on := 2, ground := Ground.phase }, { on := 3, ground := Ground.phase }, { on := 4, ground := Ground.phase }, { on := 5, ground := Ground.phase }, { on := 6, ground := Ground.phase }, { on := 7, ground := Ground.phase }, { on := 8, ground := Ground.phase }, { on := 9, ground := Ground.phase }, { on := 10, ground := Ground.phase }, { on := 11, ground := Ground.phase }, { on := 12, ground := Ground.phase }, { on := 13, ground := Ground.phase }], guard := none } : Oper)) (v := ?_) rfl (by kernel_rfl) (by kernel_rfl) (by kernel_rfl) (fun _ _ _ h => h) (Or.inl ⟨by rfl, ?_⟩) hHeld ?_
          rotate_left
          · intro w_ hSw; (try dsimp only at hSw); go_simp; try (with_reducible rfl)
          try simp only [Act.put, List.setIfInBounds_toArray, List.set_cons_zero, List.set_cons_succ]
          refine wpAnyH_done (by kernel_rfl) ?_ _
          go_wp2_with fail
          go_ret
          exact ⟨rfl, HP.out.below⟩
    · have d1 : decide (48 ≤ c) = true := decide_eq_true (by omega)
      have e1 : (48 ≤ c) = True := eq_true (by omega)
      have d3 : decide (c ≤ 57) = false := decide_eq_false (by omega)
      have e3 : (c ≤ 57) = False := eq_false (by omega)
      have d2 : decide (97 ≤ c) = true := decide_eq_true (by omega)
      have e2 : (97 ≤ c) = True := eq_true (by omega)
      have d4 : decide (c ≤ 102) = true := decide_eq_true (by omega)
      have e4 : (c ≤ 102) = True := eq_true (by omega)
      clear h
      (with_reducible refine (CQ2.out _).mono ?_); rintro e wn5 ⟨rfl, hb⟩; have HPn := Aside0.mk (HP.out.call hb); clear HP; have HP := HPn; clear HPn; clear hb
      go_wp2_with (first | ((with_reducible refine gate_dst (N := 12) rfl ?_); refine ev_alloc rfl 23 rfl (.agg (u8s z32).toArray) (by kernel_rfl) ?_; intro g_y wya hge hg hb; have HPn := Aside0.mk (HP.out.newB hb hg hge); clear HP; have HP := HPn; clear HPn; clear hge hg hb) | ((with_reducible refine gate_dst (N := 13) rfl ?_); refine ev_alloc rfl 27 rfl (.agg #[.int .i64 0, .int .i64 0]) (by kernel_rfl) ?_; intro g_h wyb hge hg hb; have HPn := Aside0.mk (HP.out.newB hb hg hge); clear HP; have HP := HPn; clear HPn; clear hge hg hb) | ((with_reducible refine gate_store (t := 23) (p := 12) rfl ?_); refine ev_store rfl 23 (.tmp 12) (.tmp 56) rfl rfl _ rfl (cells := (u8s y).toArray) rfl (HP.out.blk 1 rfl) (by rw [List.size_toArray, u8s_len, HYL.out]; kernel_rfl) (show (u8s z32).toArray.size = (u8s y).toArray.size from by rw [List.size_toArray, List.size_toArray, u8s_len, u8s_len, z32_len, HYL.out]) (one_u8 _) ?_; intro wyc hg hgr; have HPn := Aside0.mk (HP.out.setB 1 rfl hgr hg); clear HP; have HP := HPn; clear HPn; clear hg hgr) | ((with_reducible refine gate_store (t := 27) (p := 13) rfl ?_); refine ev_store rfl 27 (.tmp 13) (.tmp 57) rfl rfl _ rfl (cells := #[.int .i64 0, .int .i64 0]) rfl (HP.out.blk 0 rfl) (by kernel_rfl) (by rfl) (by simp [Value.oneCell']) ?_; intro wyd hg hgr; have HPn := Aside0.mk (HP.out.setB 0 rfl hgr hg); clear HP; have HP := HPn; clear HPn; clear hg hgr; have hf1 := blk_cell (HP.out.blk 0 rfl) 0) | ((with_reducible refine gate_dst (N := 84) rfl ?_); refine ev_load rfl 23 (.tmp 12) rfl g_y rfl (HP.out.blk 1 rfl) Try.underlying23 rfl (by rw [List.size_toArray]; exact hiiy) ?_))
      (with_reducible refine (CY.out _).mono ?_); rintro e wn6 ⟨rfl, hb⟩; have HPn := Aside0.mk (HP.out.call hb); clear HP; have HP := HPn; clear HPn; clear hb hf1
      go_wp2_with (first | ((with_reducible refine gate_dst (N := 90) rfl ?_); refine ev_load rfl 23 (.tmp 12) rfl g_y rfl (HP.out.blk 1 rfl) Try.underlying23 rfl (by rw [List.size_toArray]; exact hiiy) ?_) | ((with_reducible refine gate_dst (N := 91) rfl ?_); refine ev_load rfl 23 (.tmp 3) rfl g_i rfl (HP.out.blk 4 rfl) Try.underlying23 rfl (by rw [List.size_toArray]; exact hiid) ?_))
      have HP1 := Aside0.mk (show Hp w wn6 [.blk g_h (.cells #[.int .i64 0, .int .i64 0] 27 (0, 0)), .blk g_y (.cells (u8s y).toArray 23 (0, 0)), .blk g_f (.cells #[.int .i64 0, .int .i64 0] 27 (0, 0)), .blk g_x (.cells (u8s id).toArray 23 (0, 0)), .blk g_i (.cells (u8s id).toArray 23 (0, 0))] from HP.out)
      clear HP CQ2 CY CT CP d64 hadd1 hadd2 hsl1 hsl2 er2 eq2 eq3
      obtain ⟨qh, hqh⟩ : ∃ z, qi / 2 = z := ⟨_, rfl⟩
      have eqh : Int.tdiv qi 2 = qh := by rw [Int.tdiv_eq_ediv_of_nonneg (by omega)]; exact hqh
      have h0 : 0 ≤ qh := by omega
      have h1 : qh < 32 := by omega
      have HQH := Aside0.mk (show qh = ((q / 2 : Nat) : Int) by have := HQI.out; omega)
      have HQH2 := Aside0.mk hqh
      have hq3 : (qi / 2) = qh := hqh
      have ewq := i64k (x := qh) rfl (by omega)
      clear hqh
      go_loopg [15] 32 (fun kq v15 w' => ∃ (i : Nat) (x : Int), v15 = .int .i64 x ∧ Aside0 (x = (i : Int)) ∧ Aside0 (kq + i = 32) ∧ Aside0 (Hp w w' [.blk g_h (.cells #[.int .i64 0, .int .i64 0] 27 (0, 0)), .blk g_y (.cells (u8s y).toArray 23 (0, 0)), .blk g_f (.cells #[.int .i64 0, .int .i64 0] 27 (0, 0)), .blk g_x (.cells (u8s id).toArray 23 (0, 0)), .blk g_i (.cells (u8s id).toArray 23 (0, 0))]))
      case atStart => exact ⟨0, 0, rfl, ⟨rfl⟩, ⟨rfl⟩, HP1⟩
      clear HP1
      obtain ⟨i, x, rfl, HX, HK, HP⟩ := hrel
      have hx := HX.out
      by_cases ci : i < 32
      · have dx : decide (x < 32) = true := decide_eq_true (by omega)
        have ex := i64k (x := x + 1) rfl (by omega)
        have p0 : 0 ≤ x := by omega
        have p1 : x < 32 := by omega
        have HC1 := Aside0.mk ci
        by_cases cx : x = qh
        · have d9 : (x != qh) = false := bne_eq_false_iff_eq.2 cx
          clear hx ci cx
          go_wp2_with fail
          refine held_named (S := (fun _ => True)) (by kernel_rfl) (fun wd9 hwd9 => ?_)
          have HPn := Aside0.mk (HP.out.drewN 1)
          rw [← World.drew_is_drewN, hwd9] at HPn
          clear HP hwd9
          have HP := HPn
          clear HPn
          refine ⟨by (try dsimp only); first | done | trivial, fun hHeld => ?_⟩
          refine wpAnyH_take (i := 0) (oi := ({ dst := (some 102), op := (Op.move (Operand.tmp 15)), type := 3, pos := "outright.go:96", after := #[], guard := none } : Oper)) (v := ?_) rfl (by kernel_rfl) (by kernel_rfl) (by kernel_rfl) (fun _ _ _ h => h) (Or.inl ⟨by rfl, ?_⟩) hHeld ?_
          rotate_left
          · intro w_ hSw; (try dsimp only at hSw); go_simp; try (with_reducible rfl)
          try simp only [Act.put, List.setIfInBounds_toArray, List.set_cons_zero, List.set_cons_succ]
          refine wpAnyH_take (i := 1) (oi := ({ dst := (some 103), op := (Op.move (Operand.tmp 1)), type := 3, pos := "outright.go:96", after := #[], guard := none } : Oper)) (v := ?_) rfl (by kernel_rfl) (by kernel_rfl) (by kernel_rfl) (fun _ _ _ h => h) (Or.inl ⟨by rfl, ?_⟩) hHeld ?_
          rotate_left
          · intro w_ hSw; (try dsimp only at hSw); go_simp; try (with_reducible rfl)
          try simp only [Act.put, List.setIfInBounds_toArray, List.set_cons_zero, List.set_cons_succ]
          refine wpAnyH_take (i := 2) (oi := ({ dst := (some 104), op := (Op.binOp BinOp.quo 3 (Operand.tmp 103) (Operand.const (Value.int IntKind.i64 2)) 3), type := 3, pos := "outright.go:96", after := #[{ on := 1, ground := Ground.data }], guard := none } : Oper)) (v := ?_) rfl (by kernel_rfl) (by kernel_rfl) (by kernel_rfl) (fun _ _ _ h => h) (Or.inl ⟨by rfl, ?_⟩) hHeld ?_
          rotate_left
          · intro w_ hSw; (try dsimp only at hSw); go_simp; try (with_reducible rfl)
          try simp only [Act.put, List.setIfInBounds_toArray, List.set_cons_zero, List.set_cons_succ]
          refine wpAnyH_take (i := 3) (oi := ({ dst := (some 105), op := (Op.binOp BinOp.neq 3 (Operand.tmp 102) (Operand.tmp 104) 3), type := 4, pos := "outright.go:96", after := #[{ on := 0, ground := Ground.data }, { on := 2, ground := Ground.data }], guard := none } : Oper)) (v := ?_) rfl (by kernel_rfl) (by kernel_rfl) (by kernel_rfl) (fun _ _ _ h => h) (Or.inl ⟨by rfl, ?_⟩) hHeld ?_
          rotate_left
          · intro w_ hSw; (try dsimp only at hSw); go_simp; try (with_reducible rfl)
          try simp only [Act.put, List.setIfInBounds_toArray, List.set_cons_zero, List.set_cons_succ]
          refine wpAnyH_take (i := 4) (oi := ({ dst := (some 106), op := (Op.move (Operand.tmp 105)), type := 4, pos := "outright.go:96", after := #[{ on := 3, ground := Ground.data }], guard := none } : Oper)) (v := ?_) rfl (by kernel_rfl) (by kernel_rfl) (by kernel_rfl) (fun _ _ _ h => h) (Or.inl ⟨by rfl, ?_⟩) hHeld ?_
          rotate_left
          · intro w_ hSw; (try dsimp only at hSw); go_simp; try (with_reducible rfl)
          try simp only [Act.put, List.setIfInBounds_toArray, List.set_cons_zero, List.set_cons_succ]
          refine wpAnyH_take (i := 5) (oi := ({ dst := (some 107), op := (Op.move (Operand.tmp 15)), type := 3, pos := "outright.go:96", after := #[{ on := 4, ground := Ground.guard }], guard := (some (4, true)) } : Oper)) (v := _) rfl (by kernel_rfl) (by kernel_rfl) (by kernel_rfl) (fun _ _ _ h => h) (Or.inr ⟨by rfl, rfl⟩) hHeld ?_
          try simp only [Act.put, List.setIfInBounds_toArray, List.set_cons_zero, List.set_cons_succ]
          refine wpAnyH_take (i := 6) (oi := ({ dst := (some 108), op := (Op.indexAddr 23 (Operand.tmp 12) (Operand.tmp 107)), type := 0, pos := "outright.go:96", after := #[{ on := 5, ground := Ground.data }, { on := 4, ground := Ground.guard }], guard := (some (4, true)) } : Oper)) (v := _) rfl (by kernel_rfl) (by kernel_rfl) (by kernel_rfl) (fun _ _ _ h => h) (Or.inr ⟨by rfl, rfl⟩) hHeld ?_
          try simp only [Act.put, List.setIfInBounds_toArray, List.set_cons_zero, List.set_cons_succ]
          refine wpAnyH_take (i := 7) (oi := ({ dst := (some 109), op := (Op.load 5 (Operand.tmp 108)), type := 5, pos := "outright.go:96", after := #[{ on := 6, ground := Ground.data }, { on := 4, ground := Ground.guard }], guard := (some (4, true)) } : Oper)) (v := _) rfl (by kernel_rfl) (by kernel_rfl) (by kernel_rfl) (fun _ _ _ h => h) (Or.inr ⟨by rfl, rfl⟩) hHeld ?_
          try simp only [Act.put, List.setIfInBounds_toArray, List.set_cons_zero, List.set_cons_succ]
          refine wpAnyH_take (i := 8) (oi := ({ dst := (some 110), op := (Op.move (Operand.tmp 15)), type := 3, pos := "outright.go:96", after := #[{ on := 4, ground := Ground.guard }], guard := (some (4, true)) } : Oper)) (v := _) rfl (by kernel_rfl) (by kernel_rfl) (by kernel_rfl) (fun _ _ _ h => h) (Or.inr ⟨by rfl, rfl⟩) hHeld ?_
          try simp only [Act.put, List.setIfInBounds_toArray, List.set_cons_zero, List.set_cons_succ]
          refine wpAnyH_take (i := 9) (oi := ({ dst := (some 111), op := (Op.indexAddr 23 (Operand.tmp 3) (Operand.tmp 110)), type := 0, pos := "outright.go:96", after := #[{ on := 8, ground := Ground.data }, { on := 4, ground := Ground.guard }], guard := (some (4, true)) } : Oper)) (v := _) rfl (by kernel_rfl) (by kernel_rfl) (by kernel_rfl) (fun _ _ _ h => h) (Or.inr ⟨by rfl, rfl⟩) hHeld ?_
          try simp only [Act.put, List.setIfInBounds_toArray, List.set_cons_zero, List.set_cons_succ]
          refine wpAnyH_take (i := 10) (oi := ({ dst := (some 112), op := (Op.load 5 (Operand.tmp 111)), type := 5, pos := "outright.go:96", after := #[{ on := 9, ground := Ground.data }, { on := 4, ground := Ground.guard }], guard := (some (4, true)) } : Oper)) (v := _) rfl (by kernel_rfl) (by kernel_rfl) (by kernel_rfl) (fun _ _ _ h => h) (Or.inr ⟨by rfl, rfl⟩) hHeld ?_
          try simp only [Act.put, List.setIfInBounds_toArray, List.set_cons_zero, List.set_cons_succ]
          refine wpAnyH_take (i := 11) (oi := ({ dst := (some 113), op := (Op.binOp BinOp.neq 5 (Operand.tmp 109) (Operand.tmp 112) 5), type := 4, pos := "outright.go:96", after := #[{ on := 7, ground := Ground.data }, { on := 10, ground := Ground.data }, { on := 4, ground := Ground.guard }], guard := (some (4, true)) } : Oper)) (v := _) rfl (by kernel_rfl) (by kernel_rfl) (by kernel_rfl) (fun _ _ _ h => h) (Or.inr ⟨by rfl, rfl⟩) hHeld ?_
          try simp only [Act.put, List.setIfInBounds_toArray, List.set_cons_zero, List.set_cons_succ]
          refine wpAnyH_take (i := 12) (oi := ({ dst := (some 114), op := (Op.pick (Operand.tmp 106) (Operand.tmp 113) (Operand.const (Value.bool false))), type := 4, pos := "outright.go:96", after := #[{ on := 4, ground := Ground.data }, { on := 11, ground := Ground.data }], guard := none } : Oper)) (v := ?_) rfl (by kernel_rfl) (by kernel_rfl) (by kernel_rfl) (fun _ _ _ h => h) (Or.inl ⟨by rfl, ?_⟩) hHeld ?_
          rotate_left
          · intro w_ hSw; (try dsimp only at hSw); go_simp; try (with_reducible rfl)
          try simp only [Act.put, List.setIfInBounds_toArray, List.set_cons_zero, List.set_cons_succ]
          refine wpAnyH_done (by kernel_rfl) ?_ _
          go_wp2_with fail
          go_roundg (gk - 1)
          case measure => have := HK.out; have := HC1.out; omega
          case rel => exact ⟨i + 1, x + 1, by simp, ⟨by have := HX.out; omega⟩, ⟨by have := HK.out; have := HC1.out; omega⟩, ⟨HP.out⟩⟩
        · have d9 : (x != qh) = true := bne_iff_ne.2 cx
          have hcy := cellL (HP.out.blk 1 rfl) x p0 (by rw [HYL.out]; exact p1)
          have hci := cellL (HP.out.blk 4 rfl) x p0 (by rw [HL.out]; exact p1)
          have hyo : rd y x = rd id x := by rw [hx]; exact HYO.out i (by have := HQH.out; omega)
          rw [hyo] at hcy
          obtain ⟨v, hv⟩ : ∃ v, rd id x = v := ⟨_, rfl⟩
          rw [hv] at hcy hci
          have HVI := Aside0.mk hv
          have HVY := Aside0.mk (hyo.trans hv)
          clear hx ci cx hyo hv
          have KY := Aside0.mk (fun (w' : World) (h : w'.heap[g_y]? = some (.cells (u8s y).toArray 23 (0, 0))) => (show w'.cell? ⟨g_y, (x).toNat, none⟩ = some (.int .u8 v) from by have h9 := cellL h x (by assumption) (by rw [HYL.out]; assumption); first | (rw [HVY.out] at h9; exact h9)))
          have KI := Aside0.mk (fun (w' : World) (h : w'.heap[g_i]? = some (.cells (u8s id).toArray 23 (0, 0))) => (show w'.cell? ⟨g_i, (x).toNat, none⟩ = some (.int .u8 v) from by have h9 := cellL h x (by assumption) (by rw [HL.out]; assumption); rw [HVI.out] at h9; exact h9))
          clear hcy hci
          go_wp2_with fail
          refine held_named (S := (fun w' => w'.cell? ⟨g_y, (x).toNat, none⟩ = some (.int .u8 v) ∧ w'.cell? ⟨g_i, (x).toNat, none⟩ = some (.int .u8 v))) (by kernel_rfl) (fun wd9 hwd9 => ?_)
          have HPn := Aside0.mk (HP.out.drewN 1)
          rw [← World.drew_is_drewN, hwd9] at HPn
          clear HP hwd9
          have HP := HPn
          clear HPn
          refine ⟨by (try dsimp only); exact ⟨KY.out _ (HP.out.blk 1 rfl), KI.out _ (HP.out.blk 4 rfl)⟩, fun hHeld => ?_⟩
          refine wpAnyH_take (i := 0) (oi := ({ dst := (some 102), op := (Op.move (Operand.tmp 15)), type := 3, pos := "outright.go:96", after := #[], guard := none } : Oper)) (v := ?_) rfl (by kernel_rfl) (by kernel_rfl) (by kernel_rfl) (fun _ _ _ h => h) (Or.inl ⟨by rfl, ?_⟩) hHeld ?_
          rotate_left
          · intro w_ hSw; (try dsimp only at hSw); go_simp; try (with_reducible rfl)
          try simp only [Act.put, List.setIfInBounds_toArray, List.set_cons_zero, List.set_cons_succ]
          refine wpAnyH_take (i := 1) (oi := ({ dst := (some 103), op := (Op.move (Operand.tmp 1)), type := 3, pos := "outright.go:96", after := #[], guard := none } : Oper)) (v := ?_) rfl (by kernel_rfl) (by kernel_rfl) (by kernel_rfl) (fun _ _ _ h => h) (Or.inl ⟨by rfl, ?_⟩) hHeld ?_
          rotate_left
          · intro w_ hSw; (try dsimp only at hSw); go_simp; try (with_reducible rfl)
          try simp only [Act.put, List.setIfInBounds_toArray, List.set_cons_zero, List.set_cons_succ]
          refine wpAnyH_take (i := 2) (oi := ({ dst := (some 104), op := (Op.binOp BinOp.quo 3 (Operand.tmp 103) (Operand.const (Value.int IntKind.i64 2)) 3), type := 3, pos := "outright.go:96", after := #[{ on := 1, ground := Ground.data }], guard := none } : Oper)) (v := ?_) rfl (by kernel_rfl) (by kernel_rfl) (by kernel_rfl) (fun _ _ _ h => h) (Or.inl ⟨by rfl, ?_⟩) hHeld ?_
          rotate_left
          · intro w_ hSw; (try dsimp only at hSw); go_simp; try (with_reducible rfl)
          try simp only [Act.put, List.setIfInBounds_toArray, List.set_cons_zero, List.set_cons_succ]
          refine wpAnyH_take (i := 3) (oi := ({ dst := (some 105), op := (Op.binOp BinOp.neq 3 (Operand.tmp 102) (Operand.tmp 104) 3), type := 4, pos := "outright.go:96", after := #[{ on := 0, ground := Ground.data }, { on := 2, ground := Ground.data }], guard := none } : Oper)) (v := ?_) rfl (by kernel_rfl) (by kernel_rfl) (by kernel_rfl) (fun _ _ _ h => h) (Or.inl ⟨by rfl, ?_⟩) hHeld ?_
          rotate_left
          · intro w_ hSw; (try dsimp only at hSw); go_simp; try (with_reducible rfl)
          try simp only [Act.put, List.setIfInBounds_toArray, List.set_cons_zero, List.set_cons_succ]
          refine wpAnyH_take (i := 4) (oi := ({ dst := (some 106), op := (Op.move (Operand.tmp 105)), type := 4, pos := "outright.go:96", after := #[{ on := 3, ground := Ground.data }], guard := none } : Oper)) (v := ?_) rfl (by kernel_rfl) (by kernel_rfl) (by kernel_rfl) (fun _ _ _ h => h) (Or.inl ⟨by rfl, ?_⟩) hHeld ?_
          rotate_left
          · intro w_ hSw; (try dsimp only at hSw); go_simp; try (with_reducible rfl)
          try simp only [Act.put, List.setIfInBounds_toArray, List.set_cons_zero, List.set_cons_succ]
          refine wpAnyH_take (i := 5) (oi := ({ dst := (some 107), op := (Op.move (Operand.tmp 15)), type := 3, pos := "outright.go:96", after := #[{ on := 4, ground := Ground.guard }], guard := (some (4, true)) } : Oper)) (v := ?_) rfl (by kernel_rfl) (by kernel_rfl) (by kernel_rfl) (fun _ _ _ h => h) (Or.inl ⟨by rfl, ?_⟩) hHeld ?_
          rotate_left
          · intro w_ hSw; (try dsimp only at hSw); go_simp; try (with_reducible rfl)
          try simp only [Act.put, List.setIfInBounds_toArray, List.set_cons_zero, List.set_cons_succ]
          refine wpAnyH_take (i := 6) (oi := ({ dst := (some 108), op := (Op.indexAddr 23 (Operand.tmp 12) (Operand.tmp 107)), type := 0, pos := "outright.go:96", after := #[{ on := 5, ground := Ground.data }, { on := 4, ground := Ground.guard }], guard := (some (4, true)) } : Oper)) (v := ?_) rfl (by kernel_rfl) (by kernel_rfl) (by kernel_rfl) (fun _ _ _ h => h) (Or.inl ⟨by rfl, ?_⟩) hHeld ?_
          rotate_left
          · intro w_ hSw; (try dsimp only at hSw); go_simp; try (with_reducible rfl)
          try simp only [Act.put, List.setIfInBounds_toArray, List.set_cons_zero, List.set_cons_succ]
          refine wpAnyH_take (i := 7) (oi := ({ dst := (some 109), op := (Op.load 5 (Operand.tmp 108)), type := 5, pos := "outright.go:96", after := #[{ on := 6, ground := Ground.data }, { on := 4, ground := Ground.guard }], guard := (some (4, true)) } : Oper)) (v := ?_) rfl (by kernel_rfl) (by kernel_rfl) (by kernel_rfl) (fun _ _ _ h => h) (Or.inl ⟨by rfl, ?_⟩) hHeld ?_
          rotate_left
          · intro w_ hSw; (try dsimp only at hSw); go_simp; try (with_reducible rfl)
          try simp only [Act.put, List.setIfInBounds_toArray, List.set_cons_zero, List.set_cons_succ]
          refine wpAnyH_take (i := 8) (oi := ({ dst := (some 110), op := (Op.move (Operand.tmp 15)), type := 3, pos := "outright.go:96", after := #[{ on := 4, ground := Ground.guard }], guard := (some (4, true)) } : Oper)) (v := ?_) rfl (by kernel_rfl) (by kernel_rfl) (by kernel_rfl) (fun _ _ _ h => h) (Or.inl ⟨by rfl, ?_⟩) hHeld ?_
          rotate_left
          · intro w_ hSw; (try dsimp only at hSw); go_simp; try (with_reducible rfl)
          try simp only [Act.put, List.setIfInBounds_toArray, List.set_cons_zero, List.set_cons_succ]
          refine wpAnyH_take (i := 9) (oi := ({ dst := (some 111), op := (Op.indexAddr 23 (Operand.tmp 3) (Operand.tmp 110)), type := 0, pos := "outright.go:96", after := #[{ on := 8, ground := Ground.data }, { on := 4, ground := Ground.guard }], guard := (some (4, true)) } : Oper)) (v := ?_) rfl (by kernel_rfl) (by kernel_rfl) (by kernel_rfl) (fun _ _ _ h => h) (Or.inl ⟨by rfl, ?_⟩) hHeld ?_
          rotate_left
          · intro w_ hSw; (try dsimp only at hSw); go_simp; try (with_reducible rfl)
          try simp only [Act.put, List.setIfInBounds_toArray, List.set_cons_zero, List.set_cons_succ]
          refine wpAnyH_take (i := 10) (oi := ({ dst := (some 112), op := (Op.load 5 (Operand.tmp 111)), type := 5, pos := "outright.go:96", after := #[{ on := 9, ground := Ground.data }, { on := 4, ground := Ground.guard }], guard := (some (4, true)) } : Oper)) (v := ?_) rfl (by kernel_rfl) (by kernel_rfl) (by kernel_rfl) (fun _ _ _ h => h) (Or.inl ⟨by rfl, ?_⟩) hHeld ?_
          rotate_left
          · intro w_ hSw; (try dsimp only at hSw); go_simp; try (with_reducible rfl)
          try simp only [Act.put, List.setIfInBounds_toArray, List.set_cons_zero, List.set_cons_succ]
          refine wpAnyH_take (i := 11) (oi := ({ dst := (some 113), op := (Op.binOp BinOp.neq 5 (Operand.tmp 109) (Operand.tmp 112) 5), type := 4, pos := "outright.go:96", after := #[{ on := 7, ground := Ground.data }, { on := 10, ground := Ground.data }, { on := 4, ground := Ground.guard }], guard := (some (4, true)) } : Oper)) (v := ?_) rfl (by kernel_rfl) (by kernel_rfl) (by kernel_rfl) (fun _ _ _ h => h) (Or.inl ⟨by rfl, ?_⟩) hHeld ?_
          rotate_left
          · intro w_ hSw; (try dsimp only at hSw); go_simp; try (with_reducible rfl)
          try simp only [Act.put, List.setIfInBounds_toArray, List.set_cons_zero, List.set_cons_succ]
          refine wpAnyH_take (i := 12) (oi := ({ dst := (some 114), op := (Op.pick (Operand.tmp 106) (Operand.tmp 113) (Operand.const (Value.bool false))), type := 4, pos := "outright.go:96", after := #[{ on := 4, ground := Ground.data }, { on := 11, ground := Ground.data }], guard := none } : Oper)) (v := ?_) rfl (by kernel_rfl) (by kernel_rfl) (by kernel_rfl) (fun _ _ _ h => h) (Or.inl ⟨by rfl, ?_⟩) hHeld ?_
          rotate_left
          · intro w_ hSw; (try dsimp only at hSw); go_simp; try (with_reducible rfl)
          try simp only [Act.put, List.setIfInBounds_toArray, List.set_cons_zero, List.set_cons_succ]
          refine wpAnyH_done (by kernel_rfl) ?_ _
          go_wp2_with fail
          go_roundg (gk - 1)
          case measure => have := HK.out; have := HC1.out; omega
          case rel => exact ⟨i + 1, x + 1, by simp, ⟨by have := HX.out; omega⟩, ⟨by have := HK.out; have := HC1.out; omega⟩, ⟨HP.out⟩⟩
      · have dx : decide (x < 32) = false := decide_eq_false (by omega)
        obtain ⟨z, hz⟩ : ∃ z, qi % 2 = z := ⟨_, rfl⟩
        have ez : Int.tmod qi 2 = z := by rw [Int.tmod_eq_emod_of_nonneg (by omega)]; exact hz
        have hcy := cellL (HP.out.blk 1 rfl) qh h0 (by rw [HYL.out]; exact h1)
        have hci := cellL (HP.out.blk 4 rfl) qh h0 (by rw [HL.out]; exact h1)
        have hyb := rd_byte HYB.out qh
        have hib := rd_byte HBY.out qh
        have hy0 := HY0.out
        have hy1 := HY1.out
        rw [← HQH.out] at hy0 hy1
        obtain ⟨ya, hya⟩ : ∃ v, rd y qh = v := ⟨_, rfl⟩
        obtain ⟨yi, hyi⟩ : ∃ v, rd id qh = v := ⟨_, rfl⟩
        have HVY := Aside0.mk hya
        have HVI := Aside0.mk hyi
        rw [hya] at hcy hyb hy0 hy1
        rw [hyi] at hci hib hy0 hy1
        by_cases cz : z = 0
        · have d9 : (z == 0) = true := beq_iff_eq.2 cz
          have h2 := hy0 (by have := HQI.out; omega)
          obtain ⟨m, hm⟩ : ∃ m, yi % 16 = m := ⟨_, rfl⟩
          rw [hm] at h2
          have t1 : Int.tmod ya 16 = m := by rw [Int.tmod_eq_emod_of_nonneg (by omega)]; exact h2
          have t2 : Int.tmod yi 16 = m := by rw [Int.tmod_eq_emod_of_nonneg (by omega)]; exact hm
          clear hx ci cz hy0 hy1 hyb hib hya hyi hz
          have KY := Aside0.mk (fun (w' : World) (h : w'.heap[g_y]? = some (.cells (u8s y).toArray 23 (0, 0))) => (show w'.cell? ⟨g_y, (qh).toNat, none⟩ = some (.int .u8 ya) from by have h9 := cellL h qh (by assumption) (by rw [HYL.out]; assumption); first | (rw [HVY.out] at h9; exact h9)))
          have KI := Aside0.mk (fun (w' : World) (h : w'.heap[g_i]? = some (.cells (u8s id).toArray 23 (0, 0))) => (show w'.cell? ⟨g_i, (qh).toNat, none⟩ = some (.int .u8 yi) from by have h9 := cellL h qh (by assumption) (by rw [HL.out]; assumption); rw [HVI.out] at h9; exact h9))
          clear hcy hci
          go_wp2_with fail
          refine held_named (S := (fun w' => w'.cell? ⟨g_y, (qh).toNat, none⟩ = some (.int .u8 ya) ∧ w'.cell? ⟨g_i, (qh).toNat, none⟩ = some (.int .u8 yi))) (by kernel_rfl) (fun wd9 hwd9 => ?_)
          have HPn := Aside0.mk (HP.out.drewN 1)
          rw [← World.drew_is_drewN, hwd9] at HPn
          clear HP hwd9
          have HP := HPn
          clear HPn
          refine ⟨by (try dsimp only); exact ⟨KY.out _ (HP.out.blk 1 rfl), KI.out _ (HP.out.blk 4 rfl)⟩, fun hHeld => ?_⟩
          refine wpAnyH_take (i := 0) (oi := ({ dst := (some 118), op := (Op.move (Operand.tmp 7)), type := 4, pos := "outright.go:101", after := #[], guard := none } : Oper)) (v := ?_) rfl (by kernel_rfl) (by kernel_rfl) (by kernel_rfl) (fun _ _ _ h => h) (Or.inl ⟨by rfl, ?_⟩) hHeld ?_
          rotate_left
          · intro w_ hSw; (try dsimp only at hSw); go_simp; try (with_reducible rfl)
          try simp only [Act.put, List.setIfInBounds_toArray, List.set_cons_zero, List.set_cons_succ]
          refine wpAnyH_take (i := 1) (oi := ({ dst := (some 119), op := (Op.move (Operand.tmp 118)), type := 4, pos := "outright.go:101", after := #[{ on := 0, ground := Ground.data }], guard := none } : Oper)) (v := ?_) rfl (by kernel_rfl) (by kernel_rfl) (by kernel_rfl) (fun _ _ _ h => h) (Or.inl ⟨by rfl, ?_⟩) hHeld ?_
          rotate_left
          · intro w_ hSw; (try dsimp only at hSw); go_simp; try (with_reducible rfl)
          try simp only [Act.put, List.setIfInBounds_toArray, List.set_cons_zero, List.set_cons_succ]
          refine wpAnyH_take (i := 2) (oi := ({ dst := (some 120), op := (Op.move (Operand.tmp 1)), type := 3, pos := "outright.go:101", after := #[{ on := 1, ground := Ground.guard }], guard := (some (1, true)) } : Oper)) (v := ?_) rfl (by kernel_rfl) (by kernel_rfl) (by kernel_rfl) (fun _ _ _ h => h) (Or.inl ⟨by rfl, ?_⟩) hHeld ?_
          rotate_left
          · intro w_ hSw; (try dsimp only at hSw); go_simp; try (with_reducible rfl)
          try simp only [Act.put, List.setIfInBounds_toArray, List.set_cons_zero, List.set_cons_succ]
          refine wpAnyH_take (i := 3) (oi := ({ dst := (some 121), op := (Op.binOp BinOp.quo 3 (Operand.tmp 120) (Operand.const (Value.int IntKind.i64 2)) 3), type := 3, pos := "outright.go:101", after := #[{ on := 2, ground := Ground.data }, { on := 1, ground := Ground.guard }], guard := (some (1, true)) } : Oper)) (v := ?_) rfl (by kernel_rfl) (by kernel_rfl) (by kernel_rfl) (fun _ _ _ h => h) (Or.inl ⟨by rfl, ?_⟩) hHeld ?_
          rotate_left
          · intro w_ hSw; (try dsimp only at hSw); go_simp; try (with_reducible rfl)
          try simp only [Act.put, List.setIfInBounds_toArray, List.set_cons_zero, List.set_cons_succ]
          refine wpAnyH_take (i := 4) (oi := ({ dst := (some 122), op := (Op.indexAddr 23 (Operand.tmp 12) (Operand.tmp 121)), type := 0, pos := "outright.go:101", after := #[{ on := 3, ground := Ground.data }, { on := 1, ground := Ground.guard }], guard := (some (1, true)) } : Oper)) (v := ?_) rfl (by kernel_rfl) (by kernel_rfl) (by kernel_rfl) (fun _ _ _ h => h) (Or.inl ⟨by rfl, ?_⟩) hHeld ?_
          rotate_left
          · intro w_ hSw; (try dsimp only at hSw); go_simp; try (with_reducible rfl)
          try simp only [Act.put, List.setIfInBounds_toArray, List.set_cons_zero, List.set_cons_succ]
          refine wpAnyH_take (i := 5) (oi := ({ dst := (some 123), op := (Op.load 5 (Operand.tmp 122)), type := 5, pos := "outright.go:101", after := #[{ on := 4, ground := Ground.data }, { on := 1, ground := Ground.guard }], guard := (some (1, true)) } : Oper)) (v := ?_) rfl (by kernel_rfl) (by kernel_rfl) (by kernel_rfl) (fun _ _ _ h => h) (Or.inl ⟨by rfl, ?_⟩) hHeld ?_
          rotate_left
          · intro w_ hSw; (try dsimp only at hSw); go_simp; try (with_reducible rfl)
          try simp only [Act.put, List.setIfInBounds_toArray, List.set_cons_zero, List.set_cons_succ]
          refine wpAnyH_take (i := 6) (oi := ({ dst := (some 124), op := (Op.binOp BinOp.rem 5 (Operand.tmp 123) (Operand.const (Value.int IntKind.u8 16)) 5), type := 5, pos := "outright.go:101", after := #[{ on := 5, ground := Ground.data }, { on := 1, ground := Ground.guard }], guard := (some (1, true)) } : Oper)) (v := ?_) rfl (by kernel_rfl) (by kernel_rfl) (by kernel_rfl) (fun _ _ _ h => h) (Or.inl ⟨by rfl, ?_⟩) hHeld ?_
          rotate_left
          · intro w_ hSw; (try dsimp only at hSw); go_simp; try (with_reducible rfl)
          try simp only [Act.put, List.setIfInBounds_toArray, List.set_cons_zero, List.set_cons_succ]
          refine wpAnyH_take (i := 7) (oi := ({ dst := (some 125), op := (Op.move (Operand.tmp 1)), type := 3, pos := "outright.go:101", after := #[{ on := 1, ground := Ground.guard }], guard := (some (1, true)) } : Oper)) (v := ?_) rfl (by kernel_rfl) (by kernel_rfl) (by kernel_rfl) (fun _ _ _ h => h) (Or.inl ⟨by rfl, ?_⟩) hHeld ?_
          rotate_left
          · intro w_ hSw; (try dsimp only at hSw); go_simp; try (with_reducible rfl)
          try simp only [Act.put, List.setIfInBounds_toArray, List.set_cons_zero, List.set_cons_succ]
          refine wpAnyH_take (i := 8) (oi := ({ dst := (some 126), op := (Op.binOp BinOp.quo 3 (Operand.tmp 125) (Operand.const (Value.int IntKind.i64 2)) 3), type := 3, pos := "outright.go:101", after := #[{ on := 7, ground := Ground.data }, { on := 1, ground := Ground.guard }], guard := (some (1, true)) } : Oper)) (v := ?_) rfl (by kernel_rfl) (by kernel_rfl) (by kernel_rfl) (fun _ _ _ h => h) (Or.inl ⟨by rfl, ?_⟩) hHeld ?_
          rotate_left
          · intro w_ hSw; (try dsimp only at hSw); go_simp; try (with_reducible rfl)
          try simp only [Act.put, List.setIfInBounds_toArray, List.set_cons_zero, List.set_cons_succ]
          refine wpAnyH_take (i := 9) (oi := ({ dst := (some 127), op := (Op.indexAddr 23 (Operand.tmp 3) (Operand.tmp 126)), type := 0, pos := "outright.go:101", after := #[{ on := 8, ground := Ground.data }, { on := 1, ground := Ground.guard }], guard := (some (1, true)) } : Oper)) (v := ?_) rfl (by kernel_rfl) (by kernel_rfl) (by kernel_rfl) (fun _ _ _ h => h) (Or.inl ⟨by rfl, ?_⟩) hHeld ?_
          rotate_left
          · intro w_ hSw; (try dsimp only at hSw); go_simp; try (with_reducible rfl)
          try simp only [Act.put, List.setIfInBounds_toArray, List.set_cons_zero, List.set_cons_succ]
          refine wpAnyH_take (i := 10) (oi := ({ dst := (some 128), op := (Op.load 5 (Operand.tmp 127)), type := 5, pos := "outright.go:101", after := #[{ on := 9, ground := Ground.data }, { on := 1, ground := Ground.guard }], guard := (some (1, true)) } : Oper)) (v := ?_) rfl (by kernel_rfl) (by kernel_rfl) (by kernel_rfl) (fun _ _ _ h => h) (Or.inl ⟨by rfl, ?_⟩) hHeld ?_
          rotate_left
          · intro w_ hSw; (try dsimp only at hSw); go_simp; try (with_reducible rfl)
          try simp only [Act.put, List.setIfInBounds_toArray, List.set_cons_zero, List.set_cons_succ]
          refine wpAnyH_take (i := 11) (oi := ({ dst := (some 129), op := (Op.binOp BinOp.rem 5 (Operand.tmp 128) (Operand.const (Value.int IntKind.u8 16)) 5), type := 5, pos := "outright.go:101", after := #[{ on := 10, ground := Ground.data }, { on := 1, ground := Ground.guard }], guard := (some (1, true)) } : Oper)) (v := ?_) rfl (by kernel_rfl) (by kernel_rfl) (by kernel_rfl) (fun _ _ _ h => h) (Or.inl ⟨by rfl, ?_⟩) hHeld ?_
          rotate_left
          · intro w_ hSw; (try dsimp only at hSw); go_simp; try (with_reducible rfl)
          try simp only [Act.put, List.setIfInBounds_toArray, List.set_cons_zero, List.set_cons_succ]
          refine wpAnyH_take (i := 12) (oi := ({ dst := (some 130), op := (Op.binOp BinOp.eql 5 (Operand.tmp 124) (Operand.tmp 129) 5), type := 4, pos := "outright.go:101", after := #[{ on := 6, ground := Ground.data }, { on := 11, ground := Ground.data }, { on := 1, ground := Ground.guard }], guard := (some (1, true)) } : Oper)) (v := ?_) rfl (by kernel_rfl) (by kernel_rfl) (by kernel_rfl) (fun _ _ _ h => h) (Or.inl ⟨by rfl, ?_⟩) hHeld ?_
          rotate_left
          · intro w_ hSw; (try dsimp only at hSw); go_simp; try (with_reducible rfl)
          try simp only [Act.put, List.setIfInBounds_toArray, List.set_cons_zero, List.set_cons_succ]
          refine wpAnyH_take (i := 13) (oi := ({ dst := (some 131), op := (Op.pick (Operand.tmp 119) (Operand.tmp 130) (Operand.const (Value.bool false))), type := 4, pos := "outright.go:101", after := #[{ on := 1, ground := Ground.data }, { on := 12, ground := Ground.data }], guard := none } : Oper)) (v := ?_) rfl (by kernel_rfl) (by kernel_rfl) (by kernel_rfl) (fun _ _ _ h => h) (Or.inl ⟨by rfl, ?_⟩) hHeld ?_
          rotate_left
          · intro w_ hSw; (try dsimp only at hSw); go_simp; try (with_reducible rfl)
          try simp only [Act.put, List.setIfInBounds_toArray, List.set_cons_zero, List.set_cons_succ]
          refine wpAnyH_take (i := 14) (oi := ({ dst := (some 6), op := (Op.assign (Operand.tmp 131)), type := 4, pos := "outright.go:101", after := #[{ on := 13, ground := Ground.data }, { on := 1, ground := Ground.chain }, { on := 0, ground := Ground.phase }, { on := 1, ground := Ground.phase }, { on := 2, ground := Ground.phase }, { on := 3, ground := Ground.phase }, { on := 4, ground := Ground.phase }, { on := 5, ground := Ground.phase }, { on := 6, ground := Ground.phase }, { on := 7, ground := Ground.phase }, { on := 8, ground := Ground.phase }, { on := 9, ground := Ground.phase }, { on := 10, ground := Ground.phase }, { on := 11, ground := Ground.phase }, { on := 12, ground := Ground.phase }, { on := 13, ground := Ground.phase }], guard := none } : Oper)) (v := ?_) rfl (by kernel_rfl) (by kernel_rfl) (by kernel_rfl) (fun _ _ _ h => h) (Or.inl ⟨by rfl, ?_⟩) hHeld ?_
          rotate_left
          · intro w_ hSw; (try dsimp only at hSw); go_simp; try (with_reducible rfl)
          try simp only [Act.put, List.setIfInBounds_toArray, List.set_cons_zero, List.set_cons_succ]
          refine wpAnyH_done (by kernel_rfl) ?_ _
          go_wp2_with fail
          go_ret
          exact ⟨rfl, HP.out.below⟩
        · have d9 : (z == 0) = false := beq_eq_false_iff_ne.2 cz
          have h2 := hy1 (by have := HQI.out; omega)
          obtain ⟨m, hm⟩ : ∃ m, yi / 16 = m := ⟨_, rfl⟩
          rw [hm] at h2
          have t1 : Int.tdiv ya 16 = m := by rw [Int.tdiv_eq_ediv_of_nonneg (by omega)]; exact h2
          have t2 : Int.tdiv yi 16 = m := by rw [Int.tdiv_eq_ediv_of_nonneg (by omega)]; exact hm
          have t3 : IntKind.u8.wrap m = m := by rw [IntKind.wrap_u8]; omega
          clear hx ci cz hy0 hy1 hyb hib hya hyi hz
          have KY := Aside0.mk (fun (w' : World) (h : w'.heap[g_y]? = some (.cells (u8s y).toArray 23 (0, 0))) => (show w'.cell? ⟨g_y, (qh).toNat, none⟩ = some (.int .u8 ya) from by have h9 := cellL h qh (by assumption) (by rw [HYL.out]; assumption); first | (rw [HVY.out] at h9; exact h9)))
          have KI := Aside0.mk (fun (w' : World) (h : w'.heap[g_i]? = some (.cells (u8s id).toArray 23 (0, 0))) => (show w'.cell? ⟨g_i, (qh).toNat, none⟩ = some (.int .u8 yi) from by have h9 := cellL h qh (by assumption) (by rw [HL.out]; assumption); rw [HVI.out] at h9; exact h9))
          clear hcy hci
          go_wp2_with fail
          refine held_named (S := (fun w' => w'.cell? ⟨g_y, (qh).toNat, none⟩ = some (.int .u8 ya) ∧ w'.cell? ⟨g_i, (qh).toNat, none⟩ = some (.int .u8 yi))) (by kernel_rfl) (fun wd9 hwd9 => ?_)
          have HPn := Aside0.mk (HP.out.drewN 1)
          rw [← World.drew_is_drewN, hwd9] at HPn
          clear HP hwd9
          have HP := HPn
          clear HPn
          refine ⟨by (try dsimp only); exact ⟨KY.out _ (HP.out.blk 1 rfl), KI.out _ (HP.out.blk 4 rfl)⟩, fun hHeld => ?_⟩
          refine wpAnyH_take (i := 0) (oi := ({ dst := (some 132), op := (Op.move (Operand.tmp 7)), type := 4, pos := "outright.go:103", after := #[], guard := none } : Oper)) (v := ?_) rfl (by kernel_rfl) (by kernel_rfl) (by kernel_rfl) (fun _ _ _ h => h) (Or.inl ⟨by rfl, ?_⟩) hHeld ?_
          rotate_left
          · intro w_ hSw; (try dsimp only at hSw); go_simp; try (with_reducible rfl)
          try simp only [Act.put, List.setIfInBounds_toArray, List.set_cons_zero, List.set_cons_succ]
          refine wpAnyH_take (i := 1) (oi := ({ dst := (some 133), op := (Op.move (Operand.tmp 132)), type := 4, pos := "outright.go:103", after := #[{ on := 0, ground := Ground.data }], guard := none } : Oper)) (v := ?_) rfl (by kernel_rfl) (by kernel_rfl) (by kernel_rfl) (fun _ _ _ h => h) (Or.inl ⟨by rfl, ?_⟩) hHeld ?_
          rotate_left
          · intro w_ hSw; (try dsimp only at hSw); go_simp; try (with_reducible rfl)
          try simp only [Act.put, List.setIfInBounds_toArray, List.set_cons_zero, List.set_cons_succ]
          refine wpAnyH_take (i := 2) (oi := ({ dst := (some 134), op := (Op.move (Operand.tmp 1)), type := 3, pos := "outright.go:103", after := #[{ on := 1, ground := Ground.guard }], guard := (some (1, true)) } : Oper)) (v := ?_) rfl (by kernel_rfl) (by kernel_rfl) (by kernel_rfl) (fun _ _ _ h => h) (Or.inl ⟨by rfl, ?_⟩) hHeld ?_
          rotate_left
          · intro w_ hSw; (try dsimp only at hSw); go_simp; try (with_reducible rfl)
          try simp only [Act.put, List.setIfInBounds_toArray, List.set_cons_zero, List.set_cons_succ]
          refine wpAnyH_take (i := 3) (oi := ({ dst := (some 135), op := (Op.binOp BinOp.quo 3 (Operand.tmp 134) (Operand.const (Value.int IntKind.i64 2)) 3), type := 3, pos := "outright.go:103", after := #[{ on := 2, ground := Ground.data }, { on := 1, ground := Ground.guard }], guard := (some (1, true)) } : Oper)) (v := ?_) rfl (by kernel_rfl) (by kernel_rfl) (by kernel_rfl) (fun _ _ _ h => h) (Or.inl ⟨by rfl, ?_⟩) hHeld ?_
          rotate_left
          · intro w_ hSw; (try dsimp only at hSw); go_simp; try (with_reducible rfl)
          try simp only [Act.put, List.setIfInBounds_toArray, List.set_cons_zero, List.set_cons_succ]
          refine wpAnyH_take (i := 4) (oi := ({ dst := (some 136), op := (Op.indexAddr 23 (Operand.tmp 12) (Operand.tmp 135)), type := 0, pos := "outright.go:103", after := #[{ on := 3, ground := Ground.data }, { on := 1, ground := Ground.guard }], guard := (some (1, true)) } : Oper)) (v := ?_) rfl (by kernel_rfl) (by kernel_rfl) (by kernel_rfl) (fun _ _ _ h => h) (Or.inl ⟨by rfl, ?_⟩) hHeld ?_
          rotate_left
          · intro w_ hSw; (try dsimp only at hSw); go_simp; try (with_reducible rfl)
          try simp only [Act.put, List.setIfInBounds_toArray, List.set_cons_zero, List.set_cons_succ]
          refine wpAnyH_take (i := 5) (oi := ({ dst := (some 137), op := (Op.load 5 (Operand.tmp 136)), type := 5, pos := "outright.go:103", after := #[{ on := 4, ground := Ground.data }, { on := 1, ground := Ground.guard }], guard := (some (1, true)) } : Oper)) (v := ?_) rfl (by kernel_rfl) (by kernel_rfl) (by kernel_rfl) (fun _ _ _ h => h) (Or.inl ⟨by rfl, ?_⟩) hHeld ?_
          rotate_left
          · intro w_ hSw; (try dsimp only at hSw); go_simp; try (with_reducible rfl)
          try simp only [Act.put, List.setIfInBounds_toArray, List.set_cons_zero, List.set_cons_succ]
          refine wpAnyH_take (i := 6) (oi := ({ dst := (some 138), op := (Op.binOp BinOp.quo 5 (Operand.tmp 137) (Operand.const (Value.int IntKind.u8 16)) 5), type := 5, pos := "outright.go:103", after := #[{ on := 5, ground := Ground.data }, { on := 1, ground := Ground.guard }], guard := (some (1, true)) } : Oper)) (v := ?_) rfl (by kernel_rfl) (by kernel_rfl) (by kernel_rfl) (fun _ _ _ h => h) (Or.inl ⟨by rfl, ?_⟩) hHeld ?_
          rotate_left
          · intro w_ hSw; (try dsimp only at hSw); go_simp; try (with_reducible rfl)
          try simp only [Act.put, List.setIfInBounds_toArray, List.set_cons_zero, List.set_cons_succ]
          refine wpAnyH_take (i := 7) (oi := ({ dst := (some 139), op := (Op.move (Operand.tmp 1)), type := 3, pos := "outright.go:103", after := #[{ on := 1, ground := Ground.guard }], guard := (some (1, true)) } : Oper)) (v := ?_) rfl (by kernel_rfl) (by kernel_rfl) (by kernel_rfl) (fun _ _ _ h => h) (Or.inl ⟨by rfl, ?_⟩) hHeld ?_
          rotate_left
          · intro w_ hSw; (try dsimp only at hSw); go_simp; try (with_reducible rfl)
          try simp only [Act.put, List.setIfInBounds_toArray, List.set_cons_zero, List.set_cons_succ]
          refine wpAnyH_take (i := 8) (oi := ({ dst := (some 140), op := (Op.binOp BinOp.quo 3 (Operand.tmp 139) (Operand.const (Value.int IntKind.i64 2)) 3), type := 3, pos := "outright.go:103", after := #[{ on := 7, ground := Ground.data }, { on := 1, ground := Ground.guard }], guard := (some (1, true)) } : Oper)) (v := ?_) rfl (by kernel_rfl) (by kernel_rfl) (by kernel_rfl) (fun _ _ _ h => h) (Or.inl ⟨by rfl, ?_⟩) hHeld ?_
          rotate_left
          · intro w_ hSw; (try dsimp only at hSw); go_simp; try (with_reducible rfl)
          try simp only [Act.put, List.setIfInBounds_toArray, List.set_cons_zero, List.set_cons_succ]
          refine wpAnyH_take (i := 9) (oi := ({ dst := (some 141), op := (Op.indexAddr 23 (Operand.tmp 3) (Operand.tmp 140)), type := 0, pos := "outright.go:103", after := #[{ on := 8, ground := Ground.data }, { on := 1, ground := Ground.guard }], guard := (some (1, true)) } : Oper)) (v := ?_) rfl (by kernel_rfl) (by kernel_rfl) (by kernel_rfl) (fun _ _ _ h => h) (Or.inl ⟨by rfl, ?_⟩) hHeld ?_
          rotate_left
          · intro w_ hSw; (try dsimp only at hSw); go_simp; try (with_reducible rfl)
          try simp only [Act.put, List.setIfInBounds_toArray, List.set_cons_zero, List.set_cons_succ]
          refine wpAnyH_take (i := 10) (oi := ({ dst := (some 142), op := (Op.load 5 (Operand.tmp 141)), type := 5, pos := "outright.go:103", after := #[{ on := 9, ground := Ground.data }, { on := 1, ground := Ground.guard }], guard := (some (1, true)) } : Oper)) (v := ?_) rfl (by kernel_rfl) (by kernel_rfl) (by kernel_rfl) (fun _ _ _ h => h) (Or.inl ⟨by rfl, ?_⟩) hHeld ?_
          rotate_left
          · intro w_ hSw; (try dsimp only at hSw); go_simp; try (with_reducible rfl)
          try simp only [Act.put, List.setIfInBounds_toArray, List.set_cons_zero, List.set_cons_succ]
          refine wpAnyH_take (i := 11) (oi := ({ dst := (some 143), op := (Op.binOp BinOp.quo 5 (Operand.tmp 142) (Operand.const (Value.int IntKind.u8 16)) 5), type := 5, pos := "outright.go:103", after := #[{ on := 10, ground := Ground.data }, { on := 1, ground := Ground.guard }], guard := (some (1, true)) } : Oper)) (v := ?_) rfl (by kernel_rfl) (by kernel_rfl) (by kernel_rfl) (fun _ _ _ h => h) (Or.inl ⟨by rfl, ?_⟩) hHeld ?_
          rotate_left
          · intro w_ hSw; (try dsimp only at hSw); go_simp; try (with_reducible rfl)
          try simp only [Act.put, List.setIfInBounds_toArray, List.set_cons_zero, List.set_cons_succ]
          refine wpAnyH_take (i := 12) (oi := ({ dst := (some 144), op := (Op.binOp BinOp.eql 5 (Operand.tmp 138) (Operand.tmp 143) 5), type := 4, pos := "outright.go:103", after := #[{ on := 6, ground := Ground.data }, { on := 11, ground := Ground.data }, { on := 1, ground := Ground.guard }], guard := (some (1, true)) } : Oper)) (v := ?_) rfl (by kernel_rfl) (by kernel_rfl) (by kernel_rfl) (fun _ _ _ h => h) (Or.inl ⟨by rfl, ?_⟩) hHeld ?_
          rotate_left
          · intro w_ hSw; (try dsimp only at hSw); go_simp; try (with_reducible rfl)
          try simp only [Act.put, List.setIfInBounds_toArray, List.set_cons_zero, List.set_cons_succ]
          refine wpAnyH_take (i := 13) (oi := ({ dst := (some 145), op := (Op.pick (Operand.tmp 133) (Operand.tmp 144) (Operand.const (Value.bool false))), type := 4, pos := "outright.go:103", after := #[{ on := 1, ground := Ground.data }, { on := 12, ground := Ground.data }], guard := none } : Oper)) (v := ?_) rfl (by kernel_rfl) (by kernel_rfl) (by kernel_rfl) (fun _ _ _ h => h) (Or.inl ⟨by rfl, ?_⟩) hHeld ?_
          rotate_left
          · intro w_ hSw; (try dsimp only at hSw); go_simp; try (with_reducible rfl)
          try simp only [Act.put, List.setIfInBounds_toArray, List.set_cons_zero, List.set_cons_succ]
          refine wpAnyH_take (i := 14) (oi := ({ dst := (some 6), op := (Op.assign (Operand.tmp 145)), type := 4, pos := "outright.go:103", after := #[{ on := 13, ground := Ground.data }, { on := 1, ground := Ground.chain }, { on := 0, ground := Ground.phase }, { on := 1, ground := Ground.phase }, { on := 2, ground := Ground.phase }, { on := 3, ground := Ground.phase }, { on := 4, ground := Ground.phase }, { on := 5, ground := Ground.phase }, { on := 6, ground := Ground.phase }, { on := 7, ground := Ground.phase }, { on := 8, ground := Ground.phase }, { on := 9, ground := Ground.phase }, { on := 10, ground := Ground.phase }, { on := 11, ground := Ground.phase }, { on := 12, ground := Ground.phase }, { on := 13, ground := Ground.phase }], guard := none } : Oper)) (v := ?_) rfl (by kernel_rfl) (by kernel_rfl) (by kernel_rfl) (fun _ _ _ h => h) (Or.inl ⟨by rfl, ?_⟩) hHeld ?_
          rotate_left
          · intro w_ hSw; (try dsimp only at hSw); go_simp; try (with_reducible rfl)
          try simp only [Act.put, List.setIfInBounds_toArray, List.set_cons_zero, List.set_cons_succ]
          refine wpAnyH_done (by kernel_rfl) ?_ _
          go_wp2_with fail
          go_ret
          exact ⟨rfl, HP.out.below⟩
end Go.Proofs.Ytpnjbogpooejhaa.H
