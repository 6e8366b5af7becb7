import Derived.Test.YtpnjbogpooejhaaK5
import Derived.Test.YtpnjbogpooejhaaK6
import Derived.Test.YtpnjbogpooejhaaH9
import Derived.Test.YtpnjbogpooejhaaXHgL
namespace Go.Proofs.Ytpnjbogpooejhaa.H
open Go.RowKit Go.Proofs.Ytpnjbogpooejhaa.XH Go.Proofs.YtpnjbogpooejhaaW.PrintWords Go.Proofs.YtpnjbogpooejhaaW.PrintLast Go.Proofs.YtpnjbogpooejhaaW.PrintMore Go.Proofs.YtpnjbogpooejhaaXe Go.Proofs.YtpnjbogpooejhaaXs
set_option linter.unusedVariables false
set_option linter.unusedSimpArgs false
attribute [local go_sem ↓] Go.wp_at_zero Go.wp_at_succ
attribute [local go_sem] valUpon
attribute [local go_sem ↓ high] bn23 bn52
attribute [local go_sem high] BN23.z eq_zz
theorem C_lent {w : World} {g : Nat} {b : List Int} (hg : w.heap[g]? = some (.cells (u8s (b ++ lentT b.length)).toArray 5 (0, 0))) (hl : b.length ≤ 1000000000000) : Kd.C (Kd.int .u8) w (some ⟨g, 0, none⟩) b.length b := by
  have h := Kd.C_take (m := b.length) (C_blkW (k := .u8) hg (by rw [lent_len]; omega)) (by rw [lent_len]; omega)
  rwa [List.take_left'  rfl] at h
theorem long_l (l : List (List Int)) (most : Nat) (bytes : Int) (hm : most ≤ 1000) : ∀ (m i fuel : Nat), i + m = most + 1 → 2 * m + 2 ≤ fuel → ∃ r, retconlaw02_long.l0 fuel l (most : Int) bytes (i : Int) = some r ∧ (r = false → l.length ≤ most ∧ ∀ j : Nat, i ≤ j → j < l.length → ((rd_L1 l (j : Int)).length : Int) ≤ bytes)
  | m, i, fuel, h, hf => by
    obtain ⟨f, rfl⟩ : ∃ f, fuel = f + 2 := ⟨fuel - 2, by omega⟩
    unfold retconlaw02_long.l0
    by_cases c1 : (i : Int) < (l.length : Int)
    · rw [if_pos c1]
      unfold retconlaw02_long.j1
      by_cases c2 : (i : Int) ≤ (most : Int)
      · rw [if_pos (by simpa using c2), if_pos (by omega), if_pos c1]
        by_cases c3 : ((rd_L1 l (i : Int)).length : Int) > bytes
        · rw [if_pos c3]; exact ⟨true, rfl, fun h => by cases h⟩
        · rw [if_neg c3]
          obtain ⟨m', rfl⟩ : ∃ m', m = m' + 1 := ⟨m - 1, by omega⟩
          obtain ⟨r, h1, h2⟩ := long_l l most bytes hm m' (i + 1) f (by omega) (by omega)
          refine ⟨r, ?_, fun hr => ⟨(h2 hr).1, fun j h3 h4 => ?_⟩⟩
          · rw [← h1]; congr 1; unfold wrap64; omega
          · rcases Nat.eq_or_lt_of_le h3 with h5 | h5
            · subst h5; omega
            · exact (h2 hr).2 j (by omega) h4
      · rw [if_neg (by simpa using c2)]
        refine ⟨_, rfl, fun hr => ?_⟩
        rw [decide_eq_false_iff_not] at hr
        omega
    · rw [if_neg c1]
      unfold retconlaw02_long.j1
      rw [if_neg (by simp)]
      refine ⟨_, rfl, fun hr => ?_⟩
      rw [decide_eq_false_iff_not] at hr
      exact ⟨by omega, fun j h3 h4 => by omega⟩
termination_by m => m
theorem cellB {w w' : World} {a : Addr} {v : Value} (hb : Below w.heap.size w w') (h : w.cell? a = some v) : w'.cell? a = some v := (hb.cell (World.block_lt_of_cell? w a h)).trans h
theorem take_flat (l : List (List Int)) (i : Nat) (h : i < l.length) : (l.take (i + 1)).flatten = (l.take i).flatten ++ rd_L1 l (i : Int) := by
  rw [List.take_succ_eq_append_getElem h, List.flatten_append]
  simp [rd_L1, h]
theorem flat_len (l : List (List Int)) (B : Nat) (h : ∀ j : Nat, j < l.length → (rd_L1 l (j : Int)).length ≤ B) : ∀ i, i ≤ l.length → (l.take i).flatten.length ≤ i * B
  | 0, _ => by simp
  | i + 1, hi => by
    have := flat_len l B h i (by omega)
    have := h i (by omega)
    rw [take_flat l i (by omega), List.length_append, Nat.succ_mul]
    omega
theorem flat_bytes {l : List (List Int)} (h : ∀ b ∈ l, Bytes b) (i : Nat) : Bytes (l.take i).flatten := by
  intro x hx
  obtain ⟨b, hb, hx⟩ := List.mem_flatten.1 hx
  exact h b (List.mem_of_mem_take hb) x hx
theorem rd_mem {l : List (List Int)} {i : Nat} (h : i < l.length) : rd_L1 l (i : Int) ∈ l := by simp [rd_L1, h]
set_option maxHeartbeats 8000000 in
set_option maxRecDepth 100000 in
theorem hashNames_law (A : Option Addr) (c : Nat) (l : List (List Int)) (w : World) (hr : Kd.C (Kd.slice 5 (Kd.int .u8)) w A l.length l) (hc : l.length ≤ c) (hm : l.length ≤ 9223372036854775807) (hB : ∀ b ∈ l, Bytes b) : Calls Try.prog 6 #[.slice A l.length c] w fun e w' => e = .returned (.bool true) ∧ Below w.heap.size w w' := by
  obtain ⟨lb, hlf, hlong⟩ := long_l l 12 300 (by omega) 13 0 60 rfl (by omega)
  have CLG := Aside0.mk (fun w hr => retconlaw02_long.calls 60 A c l 12 300 lb w hr hc hlf)
  have HR := Aside0.mk hr
  have HP := Aside0.mk (Hp.start w)
  have HBY := Aside0.mk hB
  have HLG := Aside0.mk hlong
  clear hr hc hm hlf hlong hB
  go_enter Try.func6, Try.ntmps6
  go_wp2_with fail
  (with_reducible refine (c_new _).mono ?_); rintro e wn2 ⟨g, rfl, hge, hg, hb⟩; have HPn := Aside0.mk (HP.out.newB hb hg hge); clear HP hge hg hb; have HP := HPn; clear HPn
  go_wp2_with fail
  (with_reducible refine (CLG.out _ (Kd.C_below HR.out HP.out.below)).mono ?_); rintro e w_ ⟨rfl, n_, rfl⟩; have HPn := Aside0.mk (HP.out.drewN n_); clear HP; have HP := HPn; clear HPn
  obtain ⟨wn3, hwn3⟩ : ∃ z, wn2.drewN n_ = z := ⟨_, rfl⟩
  rw [hwn3] at HP
  rw [hwn3]
  clear hwn3
  cases lb with
  | true =>
    go_wp2_with fail
    (with_reducible refine (c_awake _).mono ?_); rintro e wn4 ⟨rfl, hb⟩; have HPn := Aside0.mk (HP.out.call hb); clear HP; have HP := HPn; clear HPn; clear hb
    go_wp2_with fail
    go_ret
    exact ⟨rfl, HP.out.below⟩
  | false =>
    have hlen := (HLG.out rfl).1
    have hle := (HLG.out rfl).2
    have hfl := flat_len l 300 (fun j hj => by have := hle j (Nat.zero_le _) hj; omega)
    have HLE := Aside0.mk hle
    have HFL := Aside0.mk hfl
    have HLEN := Aside0.mk hlen
    clear hlen hle hfl HLG CLG
    go_wp2_with fail
    have HP1 := Aside0.mk (show Hp w wn3 [.row (Kd.int .u8) 5 w.heap.size (.slice none 0 0) [], .blk g (.cells (dc true H0 (List.replicate 64 0) (0)).toArray 52 (0, 0))] from HP.out.newR (Below.refl _ _) (Kd.R_nil (Kd.int .u8) 5 wn3 wn3.heap.size (fun _ => True)))
    clear HP
    go_loopg [4, 5, 6, 7] l.length (fun kq v4 v5 v6 v7 w' => ∃ (i : Nat) (x : Int) (v : V8) (p : List Int), v5 = .int .i64 x ∧ Aside0 (x = (i : Int)) ∧ Aside0 (kq + i = l.length) ∧ Aside0 (DigI v p (l.take i).flatten) ∧ Aside0 (Hp w w' [.row (Kd.int .u8) 5 w.heap.size v4 (l.take i).flatten, .blk g (.cells (dc true v p (((l.take i).flatten.length : Int))).toArray 52 (0, 0))]))
    case atStart => exact ⟨0, 0, H0, List.replicate 64 0, rfl, ⟨rfl⟩, ⟨by omega⟩, ⟨dig0⟩, HP1⟩
    clear HP1
    obtain ⟨i, x, v, p, rfl, HX, HK, HD, HP⟩ := hrel
    have hx1 := HX.out
    have hlen := HLEN.out
    by_cases c1 : i < l.length
    · have d1 : decide (x < (l.length : Int)) = true := decide_eq_true (by omega)
      have p0 : 0 ≤ x := by omega
      have q0 : x < (l.length : Int) := by omega
      have ex := i64k (x := x + 1) rfl (by omega)
      obtain ⟨ad, A1, c1', e, hx0, hl1, hi1⟩ := at_L1 HR.out x p0 q0
      cases e
      obtain ⟨b, hbq⟩ : ∃ b, rd_L1 l x = b := ⟨_, rfl⟩
      rw [hbq] at hx0 hl1 hi1
      have hbl : b.length ≤ 300 := by rw [← hbq, hx1]; have := HLE.out i (Nat.zero_le _) c1; omega
      have hbB : Bytes b := by rw [← hbq, hx1]; exact HBY.out _ (rd_mem c1)
      obtain ⟨M, hM⟩ : ∃ M, (l.take i).flatten = M := ⟨_, rfl⟩
      have hMl : M.length ≤ 3600 := by rw [← hM]; have := HFL.out i (by omega); omega
      have hMb : Bytes (M ++ b) := by
        have h1 := flat_bytes HBY.out (i + 1)
        rw [take_flat l i c1, hM, ← hx1, hbq] at h1
        exact h1
      obtain ⟨M2, hM2⟩ : ∃ z, M ++ b = z := ⟨_, rfl⟩
      rw [hM2] at hMb
      have HM2 := Aside0.mk hM2
      have HM2L := Aside0.mk (show M2.length ≤ 3900 by rw [← hM2, List.length_append]; omega)
      have HNX := Aside0.mk (show (l.take (i + 1)).flatten = M2 by rw [take_flat l i c1, hM, ← hx1, hbq, hM2])
      rw [hM] at HP HD
      obtain ⟨A4, c4, rfl⟩ := Kd.R_slice (HP.out.row 0 rfl)
      have HX0 := Aside0.mk hx0
      have HI1 := Aside0.mk hi1
      have HL1 := Aside0.mk hl1
      have HBL := Aside0.mk hbl
      have HML := Aside0.mk hMl
      have HBB := Aside0.mk hbB
      have HMB := Aside0.mk hMb
      have HC1 := Aside0.mk c1
      obtain ⟨sb, hsb⟩ : ∃ z, sha b = z := ⟨_, rfl⟩
      have hsl : sb.length = 32 := by rw [← hsb]; exact sha_len b
      have heq1 : ∀ d w, (Op.equalIn (d + 2) 23 (.agg (u8s sb).toArray) (.agg (u8s sb).toArray)).run Try.prog w = .ok true w := fun d w => by rw [eq_id d w sb sb hsl hsl]; simp
      obtain ⟨sm, hsm⟩ : ∃ z, sha M2 = z := ⟨_, rfl⟩
      have hml : sm.length = 32 := by rw [← hsm]; exact sha_len _
      have heq2 : ∀ d w, (Op.equalIn (d + 2) 23 (.agg (u8s sm).toArray) (.agg (u8s sm).toArray)).run Try.prog w = .ok true w := fun d w => by rw [eq_id d w sm sm hml hml]; simp
      have HSB := Aside0.mk (And.intro hsb (And.intro hsl (And.intro hsm hml)))
      have hx := cellB HP.out.below HX0.out
      have hu := Try.underlying23
      have hib : (Try.prog.info? 23).map (·.size) = some (u8s sb).length := by rw [u8s_len, hsl]; kernel_rfl
      clear hM2 hx0 hi1 hl1 hbl hMl hbB hMb hbq hM hx1 hlen c1 hsb hsl hsm hml
      go_wp2_with fail
      (with_reducible refine (c_lent A1 c1' b _ (Kd.C_below HI1.out HP.out.below) HL1.out (by have := HBL.out; omega)).mono ?_); rintro e wa ⟨gl, rfl, hge, hg, hb⟩; have HPn := Aside0.mk (HP.out.newB hb hg hge); clear HP; have HP := HPn; clear HPn; clear hge hg hb hx; have hx := cellB HP.out.below HX0.out
      go_wp2_with fail
      have CH := Aside0.mk (c_hsum (some ⟨gl, 0, none⟩) (b.length + 3) b _ (C_lent (HP.out.blk 0 rfl) (by have := HBL.out; omega)) (by omega) (by have := HBL.out; omega)); rw [HSB.out.1] at CH
      (with_reducible refine (CH.out).mono ?_); rintro e wb ⟨rfl, hb⟩; have HPn := Aside0.mk (HP.out.call hb); clear HP; have HP := HPn; clear HPn; clear hb hx CH; have hx := cellB HP.out.below HX0.out
      go_wp2_with (first | ((with_reducible refine gate_dst (N := 7) rfl ?_); refine ev_alloc rfl 23 rfl (.agg (u8s z32).toArray) (by kernel_rfl) ?_; intro g7 wc hge hg hb; have HPn := Aside0.mk (HP.out.newB hb hg hge); clear HP; have HP := HPn; clear HPn; clear hge hg hb; clear hx; have hx := cellB HP.out.below HX0.out) | ((with_reducible refine gate_store (t := 23) (p := 7) rfl ?_); refine ev_store rfl 23 (.tmp 7) (.tmp 32) rfl rfl _ rfl (cells := (u8s sb).toArray) rfl (HP.out.blk 0 rfl) (by rw [List.size_toArray]; exact hib) (show (u8s z32).toArray.size = (u8s sb).toArray.size from by rw [List.size_toArray, List.size_toArray, u8s_len, u8s_len, z32_len, HSB.out.2.1]) (one_u8 _) ?_; intro wd hg hgr; have HPn := Aside0.mk (HP.out.setB 0 rfl hgr hg); clear HP; have HP := HPn; clear HPn; clear hg hgr; clear hx; have hx := cellB HP.out.below HX0.out))
      refine (c_write HP.out 3 g v p M b rfl HD.out (some ⟨gl, 0, none⟩) (b.length + 3) (by omega) (by have := HBL.out; have := HML.out; omega) (fun w1 v1 p1 n1 hp => C_lent (hp.blk 1 rfl) (by have := HBL.out; omega))).mono ?_; rintro e we ⟨rfl, v2, p2, hd, hp⟩; rw [HM2.out] at hd hp
      have HPn := Aside0.mk (show Hp w we [.blk g7 (.cells (u8s sb).toArray 23 (0, 0)), .blk gl (.cells (u8s (b ++ lentT b.length)).toArray 5 (0, 0)), .row (Kd.int .u8) 5 w.heap.size (.slice A4 M.length c4) M, .blk g (.cells (dc true v2 p2 ((M2.length : Int))).toArray 52 (0, 0))] from hp); have HD2 := Aside0.mk hd; clear HP hp hd HD hx; have HP := HPn; clear HPn; have hx := cellB HP.out.below HX0.out
      go_wp2_with fail
      clear hx
      have CR := Aside0.mk (fun w hr => c_rsum A1 c1' b w hr HL1.out (by have := HBL.out; omega) HBB.out); rw [HSB.out.1] at CR
      have CK := Aside0.mk (fun w hg hr => c_kept gl A1 c1' b w hg hr HL1.out (by have := HBL.out; omega))
      refine wp_region_held_drew (S := (fun w' => w'.rangeAt g7 0 (u8s sb) ∧ w'.cell? (ad.add x.toNat) = some (.slice A1 b.length c1'))) (by kernel_rfl) ?_ (fun hHeld => ?_)
      · have HPn := Aside0.mk (HP.out.drewN 1)
        rw [← World.drew_is_drewN] at HPn
        clear HP
        have HP := HPn
        clear HPn
        exact ⟨rangeB (HP.out.blk 0 rfl), cellB HP.out.below HX0.out⟩
      have HPn := Aside0.mk (HP.out.drewN 1)
      rw [← World.drew_is_drewN] at HPn
      clear HP
      have HP := HPn
      clear HPn
      refine wpAnyH_take (i := 0) (oi := ({ dst := (some 36), op := (Op.load 23 (Operand.tmp 7)), type := 23, pos := "law.go:22", after := #[], guard := none } : Oper)) (v := _) rfl (by kernel_rfl) (by kernel_rfl) (by kernel_rfl) (fun _ _ _ h => h) (yieldsIf_load_mid (by rfl) _ _ rfl _ _ rfl _ _ (fun w hw => hw.1) hu rfl hib) hHeld ?_
      try simp only [Act.put, List.setIfInBounds_toArray, List.set_cons_zero, List.set_cons_succ]
      refine wpAnyH_take (i := 1) (oi := ({ dst := (some 37), op := (Op.move (Operand.tmp 0)), type := 36, pos := "law.go:22", after := #[], guard := none } : Oper)) (v := ?_) rfl (by kernel_rfl) (by kernel_rfl) (by kernel_rfl) (fun _ _ _ h => h) (Or.inl ⟨by rfl, ?_⟩) hHeld ?_
      rotate_left
      · intro w_ hSw; (try dsimp only at hSw); go_simp; try (with_reducible rfl)
      try simp only [Act.put, List.setIfInBounds_toArray, List.set_cons_zero, List.set_cons_succ]
      refine wpAnyH_take (i := 2) (oi := ({ dst := (some 38), op := (Op.move (Operand.tmp 5)), type := 3, pos := "law.go:22", after := #[], guard := none } : Oper)) (v := ?_) rfl (by kernel_rfl) (by kernel_rfl) (by kernel_rfl) (fun _ _ _ h => h) (Or.inl ⟨by rfl, ?_⟩) hHeld ?_
      rotate_left
      · intro w_ hSw; (try dsimp only at hSw); go_simp; try (with_reducible rfl)
      try simp only [Act.put, List.setIfInBounds_toArray, List.set_cons_zero, List.set_cons_succ]
      refine wpAnyH_take (i := 3) (oi := ({ dst := (some 39), op := (Op.indexAddr 36 (Operand.tmp 37) (Operand.tmp 38)), type := 0, pos := "law.go:22", after := #[{ on := 1, ground := Ground.data }, { on := 2, ground := Ground.data }], guard := none } : Oper)) (v := ?_) rfl (by kernel_rfl) (by kernel_rfl) (by kernel_rfl) (fun _ _ _ h => h) (Or.inl ⟨by rfl, ?_⟩) hHeld ?_
      rotate_left
      · intro w_ hSw; (try dsimp only at hSw); go_simp; try (with_reducible rfl)
      try simp only [Act.put, List.setIfInBounds_toArray, List.set_cons_zero, List.set_cons_succ]
      refine wpAnyH_take (i := 4) (oi := ({ dst := (some 40), op := (Op.load 32 (Operand.tmp 39)), type := 32, pos := "law.go:22", after := #[{ on := 3, ground := Ground.data }], guard := none } : Oper)) (v := ?_) rfl (by kernel_rfl) (by kernel_rfl) (by kernel_rfl) (fun _ _ _ h => h) (Or.inl ⟨by rfl, ?_⟩) hHeld ?_
      rotate_left
      · intro w_ hSw; (try dsimp only at hSw); go_simp; try (with_reducible rfl)
      try simp only [Act.put, List.setIfInBounds_toArray, List.set_cons_zero, List.set_cons_succ]
      refine wpAnyH_ready (rs := [5]) (by kernel_rfl) (by simp) ?_
      refine AllReadyH.cons (o := ({ dst := (some 41), op := (Op.call { callee := (Callee.value (Operand.func 21)), args := #[(Operand.tmp 40)], argTypes := #[32] }), type := 23, pos := "law.go:22", after := #[{ on := 4, ground := Ground.data }], guard := none } : Oper)) rfl (fun K hK => ?_) AllReadyH.nil
      go_simp
      go_at_call 21; (with_reducible refine (CR.out _ (Kd.C_below HI1.out HP.out.below)).mono ?_); rintro e w5 ⟨rfl, hb⟩; have HPn := Aside0.mk (HP.out.call hb); clear HP; have HP := HPn; clear HPn; clear hb
      go_wp2_with fail
      clear hHeld
      refine hK.out _ _ ?_ (fun hHeld => ?_)
      · (try dsimp only); exact ⟨rangeB (HP.out.blk 0 rfl), cellB HP.out.below HX0.out⟩
      clear hK K
      try simp only [Act.put, List.setIfInBounds_toArray, List.set_cons_zero, List.set_cons_succ]
      refine wpAnyH_take (i := 6) (oi := ({ dst := (some 42), op := (Op.binOp BinOp.neq 23 (Operand.tmp 36) (Operand.tmp 41) 23), type := 4, pos := "law.go:22", after := #[{ on := 0, ground := Ground.data }, { on := 5, ground := Ground.data }], guard := none } : Oper)) (v := ?_) rfl (by kernel_rfl) (by kernel_rfl) (by kernel_rfl) (fun _ _ _ h => h) (Or.inl ⟨by rfl, ?_⟩) hHeld ?_
      rotate_left
      · intro w_ hSw; (try dsimp only at hSw); go_simp; try (with_reducible rfl)
      try simp only [Act.put, List.setIfInBounds_toArray, List.set_cons_zero, List.set_cons_succ]
      refine wpAnyH_take (i := 7) (oi := ({ dst := (some 43), op := (Op.move (Operand.tmp 42)), type := 4, pos := "law.go:22", after := #[{ on := 6, ground := Ground.data }, { on := 5, ground := Ground.chain }], guard := none } : Oper)) (v := ?_) rfl (by kernel_rfl) (by kernel_rfl) (by kernel_rfl) (fun _ _ _ h => h) (Or.inl ⟨by rfl, ?_⟩) hHeld ?_
      rotate_left
      · intro w_ hSw; (try dsimp only at hSw); go_simp; try (with_reducible rfl)
      try simp only [Act.put, List.setIfInBounds_toArray, List.set_cons_zero, List.set_cons_succ]
      refine wpAnyH_take (i := 8) (oi := ({ dst := (some 44), op := (Op.move (Operand.tmp 6)), type := 32, pos := "law.go:22", after := #[{ on := 7, ground := Ground.guard }], guard := (some (7, false)) } : Oper)) (v := ?_) rfl (by kernel_rfl) (by kernel_rfl) (by kernel_rfl) (fun _ _ _ h => h) (Or.inl ⟨by rfl, ?_⟩) hHeld ?_
      rotate_left
      · intro w_ hSw; (try dsimp only at hSw); go_simp; try (with_reducible rfl)
      try simp only [Act.put, List.setIfInBounds_toArray, List.set_cons_zero, List.set_cons_succ]
      refine wpAnyH_take (i := 9) (oi := ({ dst := (some 45), op := (Op.move (Operand.tmp 0)), type := 36, pos := "law.go:22", after := #[{ on := 7, ground := Ground.guard }], guard := (some (7, false)) } : Oper)) (v := ?_) rfl (by kernel_rfl) (by kernel_rfl) (by kernel_rfl) (fun _ _ _ h => h) (Or.inl ⟨by rfl, ?_⟩) hHeld ?_
      rotate_left
      · intro w_ hSw; (try dsimp only at hSw); go_simp; try (with_reducible rfl)
      try simp only [Act.put, List.setIfInBounds_toArray, List.set_cons_zero, List.set_cons_succ]
      refine wpAnyH_take (i := 10) (oi := ({ dst := (some 46), op := (Op.move (Operand.tmp 5)), type := 3, pos := "law.go:22", after := #[{ on := 7, ground := Ground.guard }], guard := (some (7, false)) } : Oper)) (v := ?_) rfl (by kernel_rfl) (by kernel_rfl) (by kernel_rfl) (fun _ _ _ h => h) (Or.inl ⟨by rfl, ?_⟩) hHeld ?_
      rotate_left
      · intro w_ hSw; (try dsimp only at hSw); go_simp; try (with_reducible rfl)
      try simp only [Act.put, List.setIfInBounds_toArray, List.set_cons_zero, List.set_cons_succ]
      refine wpAnyH_take (i := 11) (oi := ({ dst := (some 47), op := (Op.indexAddr 36 (Operand.tmp 45) (Operand.tmp 46)), type := 0, pos := "law.go:22", after := #[{ on := 9, ground := Ground.data }, { on := 10, ground := Ground.data }, { on := 7, ground := Ground.guard }], guard := (some (7, false)) } : Oper)) (v := ?_) rfl (by kernel_rfl) (by kernel_rfl) (by kernel_rfl) (fun _ _ _ h => h) (Or.inl ⟨by rfl, ?_⟩) hHeld ?_
      rotate_left
      · intro w_ hSw; (try dsimp only at hSw); go_simp; try (with_reducible rfl)
      try simp only [Act.put, List.setIfInBounds_toArray, List.set_cons_zero, List.set_cons_succ]
      refine wpAnyH_take (i := 12) (oi := ({ dst := (some 48), op := (Op.load 32 (Operand.tmp 47)), type := 32, pos := "law.go:22", after := #[{ on := 11, ground := Ground.data }, { on := 7, ground := Ground.guard }], guard := (some (7, false)) } : Oper)) (v := ?_) rfl (by kernel_rfl) (by kernel_rfl) (by kernel_rfl) (fun _ _ _ h => h) (Or.inl ⟨by rfl, ?_⟩) hHeld ?_
      rotate_left
      · intro w_ hSw; (try dsimp only at hSw); go_simp; try (with_reducible rfl)
      try simp only [Act.put, List.setIfInBounds_toArray, List.set_cons_zero, List.set_cons_succ]
      refine wpAnyH_ready (rs := [13]) (by kernel_rfl) (by simp) ?_
      refine AllReadyH.cons (o := ({ dst := (some 49), op := (Op.call { callee := (Callee.value (Operand.func 22)), args := #[(Operand.tmp 44), (Operand.tmp 48)], argTypes := #[32, 32] }), type := 4, pos := "law.go:22", after := #[{ on := 8, ground := Ground.data }, { on := 12, ground := Ground.data }, { on := 7, ground := Ground.chain }, { on := 7, ground := Ground.guard }], guard := (some (7, false)) } : Oper)) rfl (fun K hK => ?_) AllReadyH.nil
      go_simp
      go_at_call 22; (with_reducible refine (CK.out _ (HP.out.blk 1 rfl) (Kd.C_below HI1.out HP.out.below)).mono ?_); rintro e w5 ⟨rfl, hb⟩; have HPn := Aside0.mk (HP.out.call hb); clear HP; have HP := HPn; clear HPn; clear hb
      go_wp2_with fail
      clear hHeld
      refine hK.out _ _ ?_ (fun hHeld => ?_)
      · (try dsimp only); exact ⟨rangeB (HP.out.blk 0 rfl), cellB HP.out.below HX0.out⟩
      clear hK K
      try simp only [Act.put, List.setIfInBounds_toArray, List.set_cons_zero, List.set_cons_succ]
      refine wpAnyH_take (i := 14) (oi := ({ dst := (some 50), op := (Op.unOp UnOp.not 4 (Operand.tmp 49)), type := 4, pos := "law.go:22", after := #[{ on := 13, ground := Ground.data }, { on := 7, ground := Ground.guard }], guard := (some (7, false)) } : Oper)) (v := ?_) rfl (by kernel_rfl) (by kernel_rfl) (by kernel_rfl) (fun _ _ _ h => h) (Or.inl ⟨by rfl, ?_⟩) hHeld ?_
      rotate_left
      · intro w_ hSw; (try dsimp only at hSw); go_simp; try (with_reducible rfl)
      try simp only [Act.put, List.setIfInBounds_toArray, List.set_cons_zero, List.set_cons_succ]
      refine wpAnyH_take (i := 15) (oi := ({ dst := (some 51), op := (Op.pick (Operand.tmp 43) (Operand.const (Value.bool true)) (Operand.tmp 50)), type := 4, pos := "law.go:22", after := #[{ on := 7, ground := Ground.data }, { on := 14, ground := Ground.data }], guard := none } : Oper)) (v := ?_) rfl (by kernel_rfl) (by kernel_rfl) (by kernel_rfl) (fun _ _ _ h => h) (Or.inl ⟨by rfl, ?_⟩) hHeld ?_
      rotate_left
      · intro w_ hSw; (try dsimp only at hSw); go_simp; try (with_reducible rfl)
      try simp only [Act.put, List.setIfInBounds_toArray, List.set_cons_zero, List.set_cons_succ]
      refine wpAnyH_done (by kernel_rfl) ?_ _
      go_wp2_with fail
      have CO := Aside0.mk (c_over HP.out 1 gl (b ++ lentT b.length) b.length rfl (by rw [lent_len]; omega) (by rw [lent_len]; have := HBL.out; omega)); rw [lent_len] at CO
      refine CO.out.mono ?_; rintro e wf ⟨rfl, l9, hl9, hp⟩; have HPn := Aside0.mk (show Hp w wf [.blk g7 (.cells (u8s sb).toArray 23 (0, 0)), .blk gl (.cells (u8s l9).toArray 5 (0, 0)), .row (Kd.int .u8) 5 w.heap.size (.slice A4 M.length c4) M, .blk g (.cells (dc true v2 p2 ((M2.length : Int))).toArray 52 (0, 0))] from hp); clear HP hp hl9 hHeld CO; have HP := HPn; clear HPn; have hx := cellB HP.out.below HX0.out
      go_wp2_with (first | ((with_reducible refine gate_builtin (b := .append) (xs := #[.tmp 54, .tmp 58]) rfl ?_); at_builtin; refine ev_append (plain_int .u8) HP.out 2 rfl (.tmp 54) (.tmp 58) 32 5 (.int .u8 0) 1 rfl Try.underlying32 info5 rfl (by decide) (by omega) _ M b _ _ _ rfl rfl rfl (Kd.C_below HI1.out HP.out.below) (by have := HBL.out; have := HML.out; omega) ?_; intro v4 wg hp; rw [HM2.out] at hp; clear HP; have HP := Aside0.mk hp; clear hp hx; have hx := cellB HP.out.below HX0.out; obtain ⟨A5, c5, rfl⟩ := Kd.R_slice (HP.out.row 2 rfl)))
      have CS := Aside0.mk (c_sum g v2 p2 M2 _ (HP.out.blk 3 rfl) HD2.out (by have := HM2L.out; omega)); rw [HSB.out.2.2.1] at CS
      (with_reducible refine (CS.out).mono ?_); rintro e wh ⟨rfl, hb⟩; have HPn := Aside0.mk (HP.out.call hb); clear HP; have HP := HPn; clear HPn; clear hb hx; have hx := cellB HP.out.below HX0.out
      go_wp2_with fail
      have CT := Aside0.mk (c_rsum A5 c5 M2 _ (Kd.R_reads' (HP.out.row 2 rfl)).2.2 (Kd.R_reads' (HP.out.row 2 rfl)).2.1 (by have := HM2L.out; omega) HMB.out); rw [HSB.out.2.2.1] at CT
      (with_reducible refine (CT.out).mono ?_); rintro e wi ⟨rfl, hb⟩; have HPn := Aside0.mk (HP.out.call hb); clear HP; have HP := HPn; clear HPn; clear hb hx CT CS; have hx := cellB HP.out.below HX0.out
      go_wp2_with fail
      (with_reducible refine (c_len g v2 p2 _ HD2.out.len _ (HP.out.blk 3 rfl)).mono ?_); rintro e w_ ⟨rfl, rfl⟩
      go_wp2_with fail
      rw [← HNX.out] at HP HD2
      rw [← HNX.out]
      have HPn := Aside0.mk (Hp.drop1 (Hp.drop1 HP.out))
      go_roundg (gk - 1)
      case measure => have := HK.out; have := HC1.out; omega
      case rel => exact ⟨i + 1, x + 1, v2, p2, by simp, ⟨by have := HX.out; omega⟩, ⟨by have := HK.out; have := HC1.out; omega⟩, HD2, HPn⟩
    · have d1 : decide (x < (l.length : Int)) = false := decide_eq_false (by have := HK.out; omega)
      clear hx1 hlen c1
      go_wp2_with fail
      (with_reducible refine (c_awake _).mono ?_); rintro e wn4 ⟨rfl, hb⟩; have HPn := Aside0.mk (HP.out.call hb); clear HP; have HP := HPn; clear HPn; clear hb
      go_wp2_with fail
      go_ret
      exact ⟨rfl, HP.out.below⟩
end Go.Proofs.Ytpnjbogpooejhaa.H
