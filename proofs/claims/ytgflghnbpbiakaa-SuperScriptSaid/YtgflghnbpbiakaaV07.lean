import Derived.Test.YtgflghnbpbiakaaV06
namespace Go.Proofs.Ytgflghnbpbiakaa.Su
open Go.Proofs.Ytgflghnbpbiakaa.H hiding C_ints cellL cellN ev_copy ev_store_mid frozC i64k run_cut_all run_cut_arr run_cut_to setL set_self
open Go.RowKit Go.Proofs.Ytgflghnbpbiakaa.XH Go.Proofs.YtgflghnbpbiakaaW.PrintWords Go.Proofs.YtgflghnbpbiakaaW.PrintLast Go.Proofs.YtgflghnbpbiakaaW.PrintMore Go.Proofs.YtgflghnbpbiakaaXe Go.Proofs.YtgflghnbpbiakaaXs
set_option linter.unusedVariables false
set_option linter.unusedSimpArgs false
attribute [local go_sem ↓] Go.wp_at_zero Go.wp_at_succ
attribute [local go_sem] valUpon
attribute [local go_sem ↓ high] bn23 bn25
attribute [local go_sem high] BN25.z
theorem resCT {P : Program} {fn : Func} {p p2 : Tmp} {ty : TypeId} (h : fn.results = #[.cell p ty, .tmp p2]) (tmps : Array Value) (w : World) {g : Nat} {t : TypeId} {cs : Array Value} {fr : Nat × Nat} {d : TypeDesc} {v : Value}
    (hp : tmps.getD p undef = .pointer (some ⟨g, 0, none⟩)) (hg : w.heap[g]? = some (.cells cs t fr)) (hu : P.underlying ty = some d) (hd : (match d with | .struct _ | .array _ _ => true | _ => false) = true) (hi : (P.info? ty).map (·.size) = some cs.size)
    (hp2 : tmps.getD p2 undef = v) : (results fn tmps).run P w = .ok (.tuple #[.agg cs, v]) w := by
  have hp' : tmps[p]?.getD undef = .pointer (some ⟨g, 0, none⟩) := by simpa using hp
  have hp2' : tmps[p2]?.getD undef = v := by simpa using hp2
  simp [results, h, hp', hp2', asAddr, run_loadVar_row w g t ty cs fr d hg hu hd hi]
noncomputable def BN81 (parts : Array (Nat × Value)) : Sem Value := Instr.build 81 parts
theorem bn81 (parts : Array (Nat × Value)) : Instr.build 81 parts = BN81 parts := rfl
theorem BN81.one (v : Value) (w : World) : (BN81 #[(0, .agg #[v])]).run Try.prog w = .ok (.agg (v :: c25 s0).toArray) w := by unfold BN81; kernel_rfl
attribute [local go_sem ↓ high] bn81
attribute [local go_sem high] BN81.one
theorem C_len {w : World} {A : Option Addr} {n : Nat} {l : List Int} (h : Kd.C (Kd.int .u8) w A n l) : l.length = n := h.1
theorem cellsN {w : World} {bA oA n : Nat} {l : List Int} (h : Kd.C (Kd.int .u8) w (some ⟨bA, oA, none⟩) n l) (k : Nat) (h2 : k < n) : w.cell? ⟨bA, oA + k, none⟩ = some (.int .u8 (rd l (k : Int))) := by
  have hl := C_len h
  refine range_C h k _ ?_
  simp [Go.Proofs.YtgflghnbpbiakaaW.PrintWords.rd, List.getD_eq_getElem?_getD, List.getElem?_eq_getElem (show k < l.length by omega)]
theorem cells2 {w : World} {bA oA n : Nat} {l : List Int} (h : Kd.C (Kd.int .u8) w (some ⟨bA, oA, none⟩) n l) (h2 : 2 ≤ n) : w.cell? ⟨bA, oA, none⟩ = some (.int .u8 (rd l 0)) ∧ w.cell? ⟨bA, oA + 1, none⟩ = some (.int .u8 (rd l 1)) := ⟨cellsN h 0 (by omega), cellsN h 1 (by omega)⟩
theorem cells1 {w : World} {bA oA n : Nat} {l : List Int} (h : Kd.C (Kd.int .u8) w (some ⟨bA, oA, none⟩) n l) (h2 : 1 ≤ n) : w.cell? ⟨bA, oA, none⟩ = some (.int .u8 (rd l 0)) := cellsN h 0 (by omega)
theorem C_tk {w : World} {A : Option Addr} {n : Nat} {l m : List Int} (h : Kd.C (Kd.int .u8) w A n l) (k : Nat) (hk : k ≤ n) (hm : l.take k = m) : Kd.C (Kd.int .u8) w A k m := by
  have hl := C_len h
  subst hl
  have h1 := Kd.C_take (m := k) h (show k ≤ l.length by omega)
  have e : (l.take k).length = k := by rw [List.length_take]; omega
  subst hm
  first | exact h1 | (rw [e] at h1; exact h1)
theorem rd_set1 (v : Value) (n : Int) : (v :: c25 s0).toArray.setIfInBounds 1 (.int .i64 n) = (v :: c25 ⟨n, z32, 0, 0⟩).toArray := by
  simp [c25, s0]
theorem rd_root (v : Value) (n : Int) (r : List Int) (h : r.length = 32) : splice (v :: c25 ⟨n, z32, 0, 0⟩) 2 (u8s r) = v :: c25 ⟨n, r, 0, 0⟩ := by
  simp [splice, c25, u8s, h, z32_len]
theorem rd_set34 (v : Value) (n a : Int) (r : List Int) (h : r.length = 32) : (v :: c25 ⟨n, r, 0, 0⟩).toArray.setIfInBounds 34 (.int .i64 a) = (v :: c25 ⟨n, r, a, 0⟩).toArray := by
  apply Array.ext'
  rw [Array.toList_setIfInBounds]
  show List.set (v :: c25 ⟨n, r, 0, 0⟩) 34 _ = v :: c25 ⟨n, r, a, 0⟩
  rw [c25, c25, List.set_cons_succ, List.set_cons_succ, List.set_append_right _ _ (by simp [u8s, h])]
  simp [u8s, h]
theorem rd_set35 (v : Value) (n a z : Int) (r : List Int) (h : r.length = 32) : (v :: c25 ⟨n, r, a, 0⟩).toArray.setIfInBounds 35 (.int .i64 z) = (v :: c25 ⟨n, r, a, z⟩).toArray := by
  apply Array.ext'
  rw [Array.toList_setIfInBounds]
  show List.set (v :: c25 ⟨n, r, a, 0⟩) 35 _ = v :: c25 ⟨n, r, a, z⟩
  rw [c25, c25, List.set_cons_succ, List.set_cons_succ, List.set_append_right _ _ (by simp [u8s, h])]
  simp [u8s, h]
theorem rd_range {w : World} {g : Nat} {v : Value} {cs : List Value} {t : TypeId} (hg : w.heap[g]? = some (.cells (v :: cs).toArray t (0, 0))) : w.rangeAt g 1 cs := fun j u hu => by
  rw [cell_of_row w g _ _ _ _ hg, Nat.add_comm 1 j]
  simpa using hu
theorem bytes_take {b : List Int} (h : Bytes b) (n : Nat) : Bytes (b.take n) := fun x hx => h x (List.mem_of_mem_take hx)
theorem bytes_drop {b : List Int} (h : Bytes b) (n : Nat) : Bytes (b.drop n) := fun x hx => h x (List.mem_of_mem_drop hx)
theorem rd_drop2 (b : List Int) : rd (b.drop 2) 0 = rd b 2 := by simp [Go.Proofs.YtgflghnbpbiakaaW.PrintWords.rd, List.getD_eq_getElem?_getD]
set_option maxHeartbeats 8000000 in
set_option maxRecDepth 100000 in
theorem c_sunpack (A : Option Addr) (c : Nat) (b : List Int) (w : World) (hr : Kd.C (Kd.int .u8) w A b.length b) (hc : b.length ≤ c) (hm : b.length ≤ 1000000) (hB : Bytes b) :
    Calls Try.prog 16 #[.slice A b.length c] w fun e w' => e = .returned (.tuple #[.agg (c25 (unpS b)).toArray, .bool (isS b)]) ∧ Below w.heap.size w w' := by
  have HR := Aside0.mk hr
  have HC := Aside0.mk hc
  have HBY := Aside0.mk hB
  have HIP := Aside0.mk (isS_prog b hB)
  have HF := Aside0.mk (fun (h : isS b = false) => (show unpS b = s0 from by unfold unpS; rw [h]; rfl))
  have HT := Aside0.mk (fun (h : isS b = true) => (show unpS b = readS b from by unfold unpS; rw [if_pos h]))
  have HP := Aside0.mk (Hp.start w)
  by_cases a1 : b.length = 64
  rotate_left
  · have d1 : ((b.length : Int) != 64) = true := bne_iff_ne.2 (by omega)
    have HN := Aside0.mk (show isS b = false from by rw [Bool.eq_false_iff]; intro h; exact a1 (HIP.out.1 h).1)
    clear a1 hr hc hm hB
    go_enter Try.func16, Try.ntmps16
    go_wp2_with (first | ((with_reducible refine gate_dst (N := 2) rfl ?_); refine ev_alloc rfl 25 rfl (.agg (c25 s0).toArray) (by kernel_rfl) ?_; intro g_o wn1 hge hg hb; have HPn := Aside0.mk (HP.out.newB hb hg hge); clear HP; have HP := HPn; clear HPn; clear hge hg hb) | ((with_reducible refine gate_store (t := 25) (p := 2) rfl ?_); refine ev_store rfl 25 (.tmp 2) (.tmp 21) rfl rfl _ rfl (cells := (c25 s0).toArray) rfl (HP.out.blk 0 rfl) (by rw [List.size_toArray, c25_len s0 rfl]; kernel_rfl) (by rfl) (c25_one s0) ?_; intro wz hg hgr; have HPn := Aside0.mk (HP.out.setB 0 rfl hgr hg); clear HP; have HP := HPn; clear HPn; clear hg hgr))
    refine bodyPost_ret (resCT rfl _ _ rfl (HP.out.blk 0 rfl) Try.underlying25 rfl (by rw [List.size_toArray, c25_len s0 rfl]; kernel_rfl) rfl) rfl ?_
    exact ⟨by rw [HF.out HN.out, HN.out]; rfl, HP.out.below⟩
  have d1 : ((b.length : Int) != 64) = false := bne_eq_false_iff_eq.2 (by omega)
  have HL := Aside0.mk a1
  obtain ⟨bA, oA, rfl⟩ := C_addr HR.out (by omega) rfl
  have HX := Aside0.mk (fun (w' : World) (hb : Below w.heap.size w w') => cells2 (Kd.C_below HR.out hb) (by omega))
  obtain ⟨k0, hk0⟩ : ∃ z, rd b 0 = z := ⟨_, rfl⟩
  obtain ⟨k1, hk1⟩ : ∃ z, rd b 1 = z := ⟨_, rfl⟩
  rw [hk0, hk1] at HX HIP
  have q00 : (0 : Int) < (b.length : Int) := by omega
  have q10 : (1 : Int) < (b.length : Int) := by omega
  have q01 : 0 < b.length := by omega
  have q11 : 1 < b.length := by omega
  have q02 : b ≠ [] := by intro h; rw [h] at q01; simp at q01
  by_cases a2 : k0 = 82
  rotate_left
  · have d2 : (k0 != 82) = true := bne_iff_ne.2 a2
    have HN := Aside0.mk (show isS b = false from by rw [Bool.eq_false_iff]; intro h; exact a2 (HIP.out.1 h).2.1)
    clear a1 a2 hr hc hm hB hk0 hk1
    go_enter Try.func16, Try.ntmps16
    go_wp2_with (first | ((with_reducible refine gate_dst (N := 2) rfl ?_); refine ev_alloc rfl 25 rfl (.agg (c25 s0).toArray) (by kernel_rfl) ?_; intro g_o wn1 hge hg hb; have HPn := Aside0.mk (HP.out.newB hb hg hge); clear HP; have HP := HPn; clear HPn; clear hge hg hb; have hx0 := (HX.out _ HP.out.below).1; have hx1 := (HX.out _ HP.out.below).2) | ((with_reducible refine gate_store (t := 25) (p := 2) rfl ?_); refine ev_store rfl 25 (.tmp 2) (.tmp 21) rfl rfl _ rfl (cells := (c25 s0).toArray) rfl (HP.out.blk 0 rfl) (by rw [List.size_toArray, c25_len s0 rfl]; kernel_rfl) (by rfl) (c25_one s0) ?_; intro wz hg hgr; have HPn := Aside0.mk (HP.out.setB 0 rfl hgr hg); clear HP; have HP := HPn; clear HPn; clear hg hgr))
    refine bodyPost_ret (resCT rfl _ _ rfl (HP.out.blk 0 rfl) Try.underlying25 rfl (by rw [List.size_toArray, c25_len s0 rfl]; kernel_rfl) rfl) rfl ?_
    exact ⟨by rw [HF.out HN.out, HN.out]; rfl, HP.out.below⟩
  have d2 : (k0 != 82) = false := bne_eq_false_iff_eq.2 a2
  by_cases a3 : k1 = 67
  rotate_left
  · have d3 : (k1 != 67) = true := bne_iff_ne.2 a3
    have HN := Aside0.mk (show isS b = false from by rw [Bool.eq_false_iff]; intro h; exact a3 (HIP.out.1 h).2.2.1)
    clear a1 a2 a3 hr hc hm hB hk0 hk1
    go_enter Try.func16, Try.ntmps16
    go_wp2_with (first | ((with_reducible refine gate_dst (N := 2) rfl ?_); refine ev_alloc rfl 25 rfl (.agg (c25 s0).toArray) (by kernel_rfl) ?_; intro g_o wn1 hge hg hb; have HPn := Aside0.mk (HP.out.newB hb hg hge); clear HP; have HP := HPn; clear HPn; clear hge hg hb; have hx0 := (HX.out _ HP.out.below).1; have hx1 := (HX.out _ HP.out.below).2) | ((with_reducible refine gate_store (t := 25) (p := 2) rfl ?_); refine ev_store rfl 25 (.tmp 2) (.tmp 21) rfl rfl _ rfl (cells := (c25 s0).toArray) rfl (HP.out.blk 0 rfl) (by rw [List.size_toArray, c25_len s0 rfl]; kernel_rfl) (by rfl) (c25_one s0) ?_; intro wz hg hgr; have HPn := Aside0.mk (HP.out.setB 0 rfl hgr hg); clear HP; have HP := HPn; clear HPn; clear hg hgr))
    refine bodyPost_ret (resCT rfl _ _ rfl (HP.out.blk 0 rfl) Try.underlying25 rfl (by rw [List.size_toArray, c25_len s0 rfl]; kernel_rfl) rfl) rfl ?_
    exact ⟨by rw [HF.out HN.out, HN.out]; rfl, HP.out.below⟩
  have d3 : (k1 != 67) = false := bne_eq_false_iff_eq.2 a3
  have HKK := Aside0.mk (And.intro a2 a3)
  have hcut50 : ∀ w : World, (Instr.slice 26 (.slice (some ⟨bA, oA, none⟩) b.length c) none (some (.int .i64 50)) none).run Try.prog w = .ok (.slice (some ⟨bA, oA, none⟩) 50 c) w := fun w => D.to8 (some ⟨bA, oA, none⟩) c b 50 (by omega) hc 50 rfl w
  obtain ⟨m50, hm50⟩ : ∃ z, b.take 50 = z := ⟨_, rfl⟩
  have hl50 : m50.length = 50 := by rw [← hm50, List.length_take]; omega
  have CH := Aside0.mk (fun (w' : World) h => c_hsum (some ⟨bA, oA, none⟩) c m50 w' h (by omega) (by omega))
  rw [hl50] at CH
  have HC50 := Aside0.mk (fun (w' : World) (hb : Below w.heap.size w w') => (show Kd.C (Kd.int .u8) w' (some ⟨bA, oA, none⟩) 50 m50 from C_tk (Kd.C_below HR.out hb) 50 (by omega) hm50))
  obtain ⟨A50, r50, hr50, hlr50, hcr50, hcutr, hCr50⟩ := D.from8 (some ⟨bA, oA, none⟩) c b 50 (by omega) hc 50 rfl
  have hl14 : r50.length = 14 := by omega
  have HC14 := Aside0.mk (fun (w' : World) (hb : Below w.heap.size w w') => hCr50 w' (Kd.C_below HR.out hb))
  have HSL := Aside0.mk (sha_lenU m50)
  have HSB := Aside0.mk (sha_byteB m50)
  have HB50 := Aside0.mk (show Bytes r50 from by rw [← hr50]; exact bytes_drop hB 50)
  rw [hm50, hr50] at HIP
  obtain ⟨sh, hsh⟩ : ∃ z, sha m50 = z := ⟨_, rfl⟩
  rw [hsh] at HSL HSB CH HIP
  obtain ⟨A2, m2, hm2, hl2, hc2, hcut2, hC2⟩ := D.from8 (some ⟨bA, oA, none⟩) c b 2 (by omega) hc 2 rfl
  have hB2 : Bytes m2 := by rw [← hm2]; exact bytes_drop hB 2
  have H2 := Aside0.mk (And.intro hm2 (And.intro (show m2.length = 62 by omega) (And.intro hc2 (And.intro (hC2 w hr) hB2))))
  have HCC := Aside0.mk (show 64 ≤ c by omega)
  rw [hl14] at hcutr HC14 hcr50
  have HC2 := Aside0.mk hcr50
  clear a1 a2 a3 hr hm hB hk0 hk1 hm50 hl50 hr50 hlr50 hcr50 hCr50 hsh hm2 hl2 hc2 hC2 hB2 hc
  have HL14 := Aside0.mk hl14
  clear hl14
  go_enter Try.func16, Try.ntmps16
  go_wp2_with (first | ((with_reducible refine gate_dst (N := 2) rfl ?_); refine ev_alloc rfl 25 rfl (.agg (c25 s0).toArray) (by kernel_rfl) ?_; intro g_o wn1 hge hg hb; have HPn := Aside0.mk (HP.out.newB hb hg hge); clear HP; have HP := HPn; clear HPn; clear hge hg hb; have hx0 := (HX.out _ HP.out.below).1; have hx1 := (HX.out _ HP.out.below).2))
  refine (CH.out _ (HC50.out _ HP.out.below)).mono ?_; rintro e wn2 ⟨rfl, hb⟩; have HPn := Aside0.mk (HP.out.call hb); clear HP; have HP := HPn; clear HPn; clear hb hx0 hx1
  go_wp2_with (first | ((with_reducible refine gate_dst (N := 4) rfl ?_); refine ev_alloc rfl 23 rfl (.agg (u8s z32).toArray) (by kernel_rfl) ?_; intro g_i wn3 hge hg hb; have HPn := Aside0.mk (HP.out.newB hb hg hge); clear HP; have HP := HPn; clear HPn; clear hge hg hb) | ((with_reducible refine gate_store (t := 23) (p := 4) rfl ?_); refine ev_store rfl 23 (.tmp 4) (.tmp 24) rfl rfl _ rfl (cells := (u8s sh).toArray) rfl (HP.out.blk 0 rfl) (by rw [List.size_toArray, u8s_len, HSL.out]; kernel_rfl) (show (u8s z32).toArray.size = (u8s sh).toArray.size from by rw [List.size_toArray, List.size_toArray, u8s_len, u8s_len, z32_len, HSL.out]) (one_u8 _) ?_; intro wn4 hg hgr; have HPn := Aside0.mk (HP.out.setB 0 rfl hgr hg); clear HP; have HP := HPn; clear HPn; clear hg hgr))
  have hcu : ∀ w : World, (Instr.sliceAt 23 (.pointer (some ⟨g_i, 0, none⟩)) none (some (.int .i64 14)) none).run Try.prog w = .ok (.slice (some ⟨g_i, 0, none⟩) 14 32) w := fun w => run_cut_to (P := Try.prog) Try.underlying23 (by kernel_rfl) (by decide) g_i 0 14 (by decide) (by decide) w
  obtain ⟨s14, hs14⟩ : ∃ z, sh.take 14 = z := ⟨_, rfl⟩
  have hsl : s14.length = 14 := by rw [← hs14, List.length_take, HSL.out]; rfl
  have CB := Aside0.mk (fun (w : World) h1 h2 => bytes_Equal.calls (some ⟨g_i, 0, none⟩) 32 s14 A50 (c - 50) r50 _ w h1 (by omega) h2 (by rw [HL14.out]; have := HCC.out; omega) (eq_fB s14 r50 (by rw [← hs14]; exact bytes_take HSB.out 14) HB50.out))
  rw [hsl, HL14.out] at CB
  have HS14 := Aside0.mk (fun (w' : World) (hg : w'.heap[g_i]? = some (.cells (u8s sh).toArray 23 (0, 0))) => (show Kd.C (Kd.int .u8) w' (some ⟨g_i, 0, none⟩) 14 s14 from by rw [← hs14]; exact C_take14 hg HSL.out))
  rw [hs14] at HIP
  clear hs14 hsl
  obtain ⟨t4, ht4⟩ : ∃ z, decide (s14 = r50) = z := ⟨_, rfl⟩
  rw [ht4] at CB
  have H44 := Aside0.mk ht4
  clear ht4
  refine held_named (S := (fun _ => True)) (by kernel_rfl) (fun wd0 hwd0 => ?_)
  have HPn := Aside0.mk (HP.out.drewN 1)
  rw [← World.drew_is_drewN, hwd0] at HPn
  clear HP hwd0
  have HP := HPn
  clear HPn
  refine ⟨by (try dsimp only); (try trivial), fun hHeld => ?_⟩
  refine wpAnyH_take (i := 0) (oi := ({ dst := (some 25), op := (Op.slice 23 (Operand.tmp 4) none (some (Operand.const (Value.int IntKind.i64 14))) none), type := 26, pos := "super.go:68", after := #[], guard := none } : Oper)) (v := ?_) rfl (by kernel_rfl) (by kernel_rfl) (by kernel_rfl) (fun _ _ _ h => h) (Or.inl ⟨by rfl, ?_⟩) hHeld ?_
  rotate_left
  · intro w_ hSw; (try dsimp only at hSw); go_simp; try (with_reducible rfl)
  try simp only [Act.put, List.setIfInBounds_toArray, List.set_cons_zero, List.set_cons_succ]
  refine wpAnyH_take (i := 1) (oi := ({ dst := (some 26), op := (Op.move (Operand.tmp 0)), type := 26, pos := "super.go:68", after := #[], guard := none } : Oper)) (v := ?_) rfl (by kernel_rfl) (by kernel_rfl) (by kernel_rfl) (fun _ _ _ h => h) (Or.inl ⟨by rfl, ?_⟩) hHeld ?_
  rotate_left
  · intro w_ hSw; (try dsimp only at hSw); go_simp; try (with_reducible rfl)
  try simp only [Act.put, List.setIfInBounds_toArray, List.set_cons_zero, List.set_cons_succ]
  refine wpAnyH_take (i := 2) (oi := ({ dst := (some 27), op := (Op.slice 26 (Operand.tmp 26) (some (Operand.const (Value.int IntKind.i64 50))) none none), type := 26, pos := "super.go:68", after := #[{ on := 1, ground := Ground.data }], guard := none } : Oper)) (v := ?_) rfl (by kernel_rfl) (by kernel_rfl) (by kernel_rfl) (fun _ _ _ h => h) (Or.inl ⟨by rfl, ?_⟩) hHeld ?_
  rotate_left
  · intro w_ hSw; (try dsimp only at hSw); go_simp; try (with_reducible rfl)
  try simp only [Act.put, List.setIfInBounds_toArray, List.set_cons_zero, List.set_cons_succ]
  refine wpAnyH_ready (rs := [3]) (by kernel_rfl) (by simp) ?_
  refine AllReadyH.cons (o := ({ dst := (some 28), op := (Op.call { callee := (Callee.value (Operand.func 43)), args := #[(Operand.tmp 25), (Operand.tmp 27)], argTypes := #[26, 26] }), type := 4, pos := "super.go:68", after := #[{ on := 0, ground := Ground.data }, { on := 2, ground := Ground.data }], guard := none } : Oper)) rfl (fun K hK => ?_) AllReadyH.nil
  go_simp
  refine (CB.out _ (HS14.out _ (HP.out.blk 0 rfl)) (HC14.out _ HP.out.below)).mono ?_; rintro e w_ ⟨rfl, n_, rfl⟩; have HPn := Aside0.mk (HP.out.drewN n_); clear HP; have HP := HPn; clear HPn; (try simp only [World.drewN_drewN] at HP)
  go_wp2_with fail
  clear hHeld
  refine hK.out _ _ ?_ (fun hHeld => ?_)
  · (try dsimp only); (try trivial)
  clear hK K
  try simp only [Act.put, List.setIfInBounds_toArray, List.set_cons_zero, List.set_cons_succ]
  refine wpAnyH_take (i := 4) (oi := ({ dst := (some 29), op := (Op.unOp UnOp.not 4 (Operand.tmp 28)), type := 4, pos := "super.go:68", after := #[{ on := 3, ground := Ground.data }], guard := none } : Oper)) (v := ?_) rfl (by kernel_rfl) (by kernel_rfl) (by kernel_rfl) (fun _ _ _ h => h) (Or.inl ⟨by rfl, ?_⟩) hHeld ?_
  rotate_left
  · intro w_ hSw; (try dsimp only at hSw); go_simp; try (with_reducible rfl)
  try simp only [Act.put, List.setIfInBounds_toArray, List.set_cons_zero, List.set_cons_succ]
  refine wpAnyH_done (by kernel_rfl) ?_ _
  clear hcu hcut50 hcutr
  cases t4
  · have HN := Aside0.mk (show isS b = false from by rw [Bool.eq_false_iff]; intro h; exact of_decide_eq_false H44.out (HIP.out.1 h).2.2.2.1)
    go_wp2_with (first | ((with_reducible refine gate_store (t := 25) (p := 2) rfl ?_); refine ev_store rfl 25 (.tmp 2) (.tmp 30) rfl rfl _ rfl (cells := (c25 s0).toArray) rfl (HP.out.blk 1 rfl) (by rw [List.size_toArray, c25_len s0 rfl]; kernel_rfl) (by rfl) (c25_one s0) ?_; intro wz hg hgr; have HPn := Aside0.mk (HP.out.setB 1 rfl hgr hg); clear HP; have HP := HPn; clear HPn; clear hg hgr))
    refine bodyPost_ret (resCT rfl _ _ rfl (HP.out.blk 1 rfl) Try.underlying25 rfl (by rw [List.size_toArray, c25_len s0 rfl]; kernel_rfl) rfl) rfl ?_
    exact ⟨by rw [HF.out HN.out, HN.out]; rfl, HP.out.below⟩
  have H4 := Aside0.mk (of_decide_eq_true H44.out)
  obtain ⟨b2, o2, rfl⟩ := C_addr H2.out.2.2.2.1 (by have := H2.out.2.1; omega) rfl
  have p00 : (0 : Int) < (m2.length : Int) := by have := H2.out.2.1; omega
  have p01 : 0 < m2.length := by have := H2.out.2.1; omega
  have p02 : m2 ≠ [] := by intro h; rw [h] at p01; simp at p01
  have hv2 : rd m2 0 = rd b 2 := by rw [← H2.out.1]; exact rd_drop2 b
  obtain ⟨k2, hk2⟩ : ∃ z, rd b 2 = z := ⟨_, rfl⟩
  rw [hk2] at hv2 HIP
  have HV2 := Aside0.mk hv2
  clear hv2 hk2
  by_cases a5 : k2 = 0
  rotate_left
  · have d5 : (k2 != 0) = true := bne_iff_ne.2 a5
    have HN := Aside0.mk (show isS b = false from by rw [Bool.eq_false_iff]; intro h; exact a5 (HIP.out.1 h).2.2.2.2.1)
    clear a5
    go_wp2_with (first | ((with_reducible refine gate_dst (N := 35) rfl ?_); refine ev_box rfl 81 (.tmp 34) rfl ((.slice (some ⟨b2, o2, none⟩) m2.length (c - 2) :: c25 s0).toArray) rfl ?_; intro g_r wn5 hge hg hb; have HPn := Aside0.mk (HP.out.newB hb hg hge); clear HP; have HP := HPn; clear HPn; clear hge hg hb; have hx2 := cells1 (Kd.C_below H2.out.2.2.2.1 HP.out.below) (by have := H2.out.2.1; omega); rw [HV2.out] at hx2; have hc0 := blk_cell (HP.out.blk 0 rfl) 0) | ((with_reducible refine gate_store (t := 25) (p := 2) rfl ?_); refine ev_store rfl 25 (.tmp 2) (.tmp 44) rfl rfl _ rfl (cells := (c25 s0).toArray) rfl (HP.out.blk 2 rfl) (by rw [List.size_toArray, c25_len s0 rfl]; kernel_rfl) (by rfl) (c25_one s0) ?_; intro wz hg hgr; have HPn := Aside0.mk (HP.out.setB 2 rfl hgr hg); clear HP; have HP := HPn; clear HPn; clear hg hgr))
    refine bodyPost_ret (resCT rfl _ _ rfl (HP.out.blk 2 rfl) Try.underlying25 rfl (by rw [List.size_toArray, c25_len s0 rfl]; kernel_rfl) rfl) rfl ?_
    exact ⟨by rw [HF.out HN.out, HN.out]; rfl, HP.out.below⟩
  have d5 : (k2 != 0) = false := bne_eq_false_iff_eq.2 a5
  have H5 := Aside0.mk a5
  clear a5
  go_wp2_with (first | ((with_reducible refine gate_dst (N := 35) rfl ?_); refine ev_box rfl 81 (.tmp 34) rfl ((.slice (some ⟨b2, o2, none⟩) m2.length (c - 2) :: c25 s0).toArray) rfl ?_; intro g_r wn5 hge hg hb; have HPn := Aside0.mk (HP.out.newB hb hg hge); clear HP; have HP := HPn; clear HPn; clear hge hg hb; have hx2 := cells1 (Kd.C_below H2.out.2.2.2.1 HP.out.below) (by have := H2.out.2.1; omega); rw [HV2.out] at hx2; have hc0 := blk_cell (HP.out.blk 0 rfl) 0))
  have CN := Aside0.mk (c_number HP.out 0 g_r (some ⟨b2, o2, none⟩) m2 (c - 2) (c25 s0) 81 rfl 8 8 rfl (by have := H2.out.2.1; omega) (by decide) (fun _ => by rw [HV2.out]; exact H5.out) H2.out.2.2.2.2 (by have := H2.out.2.1; have := HCC.out; omega) (by have := H2.out.2.1; omega) H2.out.2.2.2.1)
  clear hc0 hx2 p00 p01 p02 hcut2
  refine CN.out.mono ?_; rintro e wn6 ⟨rfl, A3, m3, hm3, hlc3, hC3, hpn⟩
  clear HP CN
  have HP := Aside0.mk hpn
  clear hpn
  obtain ⟨n8, hn8⟩ : ∃ z, numI (m2.take 8) = z := ⟨_, rfl⟩
  rw [hn8]
  have hl3 : m3.length = 54 := by rw [← hm3, List.length_drop]; have := H2.out.2.1; omega
  have H3 := Aside0.mk (And.intro hm3 (And.intro hl3 (And.intro hlc3 hC3)))
  have HB3 := Aside0.mk (show Bytes m3 from by rw [← hm3]; exact bytes_drop H2.out.2.2.2.2 8)
  have HN8 := Aside0.mk hn8
  clear hm3 hlc3 hC3 hn8 hl3
  have hc1 := blk_cell (HP.out.blk 0 rfl) 1
  have hf1 := blk_frozen (HP.out.blk 0 rfl) 1
  obtain ⟨v3, hv3⟩ : ∃ z, Value.slice A3 m3.length (c - 2 - 8) = z := ⟨_, rfl⟩
  rw [hv3] at HP
  go_wp2_with fail
  have HPn := Aside0.mk (HP.out.setCell 0 rfl 1 (.int .i64 n8))
  rw [rd_set1] at HPn
  clear HP hc1 hf1
  have HP := HPn
  clear HPn
  subst hv3
  have hcua : ∀ w : World, (Instr.sliceAt 23 (.pointer (some ⟨g_r, 2, none⟩)) none none none).run Try.prog w = .ok (.slice (some ⟨g_r, 2, none⟩) 32 32) w := fun w => run_cut_all (P := Try.prog) Try.underlying23 (by kernel_rfl) (by decide) g_r 2 w
  refine held_named (S := (fun w' => w'.cell? ⟨g_r, 0, none⟩ = some (.slice A3 m3.length (c - 2 - 8)))) (by kernel_rfl) (fun wd1 hwd1 => ?_)
  have HPn := Aside0.mk (HP.out.drewN 1)
  rw [← World.drew_is_drewN, hwd1] at HPn
  clear HP hwd1
  have HP := HPn
  clear HPn
  refine ⟨by (try dsimp only); exact blk_cell (HP.out.blk 0 rfl) 0, fun hHeld => ?_⟩
  refine wpAnyH_take (i := 0) (oi := ({ dst := (some 53), op := (Op.move (Operand.tmp 5)), type := 77, pos := "super.go:76", after := #[], guard := none } : Oper)) (v := ?_) rfl (by kernel_rfl) (by kernel_rfl) (by kernel_rfl) (fun _ _ _ h => h) (Or.inl ⟨by rfl, ?_⟩) hHeld ?_
  rotate_left
  · intro w_ hSw; (try dsimp only at hSw); go_simp; try (with_reducible rfl)
  try simp only [Act.put, List.setIfInBounds_toArray, List.set_cons_zero, List.set_cons_succ]
  refine wpAnyH_take (i := 1) (oi := ({ dst := (some 54), op := (Op.nilCheck (Operand.tmp 53)), type := 0, pos := "super.go:76", after := #[{ on := 0, ground := Ground.data }], guard := none } : Oper)) (v := ?_) rfl (by kernel_rfl) (by kernel_rfl) (by kernel_rfl) (fun _ _ _ h => h) (Or.inl ⟨by rfl, ?_⟩) hHeld ?_
  rotate_left
  · intro w_ hSw; (try dsimp only at hSw); go_simp; try (with_reducible rfl)
  try simp only [Act.put, List.setIfInBounds_toArray, List.set_cons_zero, List.set_cons_succ]
  refine wpAnyH_take (i := 2) (oi := ({ dst := (some 55), op := (Op.fieldAddr 81 (Operand.tmp 54) 1), type := 0, pos := "super.go:76", after := #[{ on := 1, ground := Ground.data }], guard := none } : Oper)) (v := ?_) rfl (by kernel_rfl) (by kernel_rfl) (by kernel_rfl) (fun _ _ _ h => h) (Or.inl ⟨by rfl, ?_⟩) hHeld ?_
  rotate_left
  · intro w_ hSw; (try dsimp only at hSw); go_simp; try (with_reducible rfl)
  try simp only [Act.put, List.setIfInBounds_toArray, List.set_cons_zero, List.set_cons_succ]
  refine wpAnyH_take (i := 3) (oi := ({ dst := (some 56), op := (Op.fieldAddr 25 (Operand.tmp 55) 1), type := 0, pos := "super.go:76", after := #[{ on := 2, ground := Ground.data }], guard := none } : Oper)) (v := ?_) rfl (by kernel_rfl) (by kernel_rfl) (by kernel_rfl) (fun _ _ _ h => h) (Or.inl ⟨by rfl, ?_⟩) hHeld ?_
  rotate_left
  · intro w_ hSw; (try dsimp only at hSw); go_simp; try (with_reducible rfl)
  try simp only [Act.put, List.setIfInBounds_toArray, List.set_cons_zero, List.set_cons_succ]
  refine wpAnyH_take (i := 4) (oi := ({ dst := (some 57), op := (Op.slice 23 (Operand.tmp 56) none none none), type := 26, pos := "super.go:76", after := #[{ on := 3, ground := Ground.data }], guard := none } : Oper)) (v := ?_) rfl (by kernel_rfl) (by kernel_rfl) (by kernel_rfl) (fun _ _ _ h => h) (Or.inl ⟨by rfl, ?_⟩) hHeld ?_
  rotate_left
  · intro w_ hSw; (try dsimp only at hSw); go_simp; try (with_reducible rfl)
  try simp only [Act.put, List.setIfInBounds_toArray, List.set_cons_zero, List.set_cons_succ]
  refine wpAnyH_take (i := 5) (oi := ({ dst := (some 58), op := (Op.move (Operand.tmp 5)), type := 77, pos := "super.go:76", after := #[], guard := none } : Oper)) (v := ?_) rfl (by kernel_rfl) (by kernel_rfl) (by kernel_rfl) (fun _ _ _ h => h) (Or.inl ⟨by rfl, ?_⟩) hHeld ?_
  rotate_left
  · intro w_ hSw; (try dsimp only at hSw); go_simp; try (with_reducible rfl)
  try simp only [Act.put, List.setIfInBounds_toArray, List.set_cons_zero, List.set_cons_succ]
  refine wpAnyH_take (i := 6) (oi := ({ dst := (some 59), op := (Op.nilCheck (Operand.tmp 58)), type := 0, pos := "super.go:76", after := #[{ on := 5, ground := Ground.data }], guard := none } : Oper)) (v := ?_) rfl (by kernel_rfl) (by kernel_rfl) (by kernel_rfl) (fun _ _ _ h => h) (Or.inl ⟨by rfl, ?_⟩) hHeld ?_
  rotate_left
  · intro w_ hSw; (try dsimp only at hSw); go_simp; try (with_reducible rfl)
  try simp only [Act.put, List.setIfInBounds_toArray, List.set_cons_zero, List.set_cons_succ]
  refine wpAnyH_take (i := 7) (oi := ({ dst := (some 60), op := (Op.fieldAddr 81 (Operand.tmp 59) 0), type := 0, pos := "super.go:76", after := #[{ on := 6, ground := Ground.data }], guard := none } : Oper)) (v := ?_) rfl (by kernel_rfl) (by kernel_rfl) (by kernel_rfl) (fun _ _ _ h => h) (Or.inl ⟨by rfl, ?_⟩) hHeld ?_
  rotate_left
  · intro w_ hSw; (try dsimp only at hSw); go_simp; try (with_reducible rfl)
  try simp only [Act.put, List.setIfInBounds_toArray, List.set_cons_zero, List.set_cons_succ]
  refine wpAnyH_take (i := 8) (oi := ({ dst := (some 61), op := (Op.fieldAddr 79 (Operand.tmp 60) 0), type := 0, pos := "super.go:76", after := #[{ on := 7, ground := Ground.data }], guard := none } : Oper)) (v := ?_) rfl (by kernel_rfl) (by kernel_rfl) (by kernel_rfl) (fun _ _ _ h => h) (Or.inl ⟨by rfl, ?_⟩) hHeld ?_
  rotate_left
  · intro w_ hSw; (try dsimp only at hSw); go_simp; try (with_reducible rfl)
  try simp only [Act.put, List.setIfInBounds_toArray, List.set_cons_zero, List.set_cons_succ]
  refine wpAnyH_take (i := 9) (oi := ({ dst := (some 62), op := (Op.load 26 (Operand.tmp 61)), type := 26, pos := "super.go:76", after := #[{ on := 8, ground := Ground.data }], guard := none } : Oper)) (v := ?_) rfl (by kernel_rfl) (by kernel_rfl) (by kernel_rfl) (fun _ _ _ h => h) (Or.inl ⟨by rfl, ?_⟩) hHeld ?_
  rotate_left
  · intro w_ hSw; (try dsimp only at hSw); go_simp; try (with_reducible rfl)
  try simp only [Act.put, List.setIfInBounds_toArray, List.set_cons_zero, List.set_cons_succ]
  refine wpAnyH_ready (rs := [10]) (by kernel_rfl) (by simp) ?_
  refine AllReadyH.cons (o := ({ dst := (some 63), op := (Op.call { callee := (Callee.builtin Builtin.copy), args := #[(Operand.tmp 57), (Operand.tmp 62)], argTypes := #[26, 26] }), type := 3, pos := "super.go:76", after := #[{ on := 4, ground := Ground.data }, { on := 9, ground := Ground.data }], guard := none } : Oper)) rfl (fun K hK => ?_) AllReadyH.nil
  have hr32 : (m3.take 32).length = 32 := by rw [List.length_take]; have := H3.out.2.1; omega
  refine st_copy HP.out 0 rfl (by rfl) (.tmp 57) (.tmp 62) 26 26 (by rfl) 5 Try.underlying26 (by kernel_rfl) 32 32 (by rfl) (A := A3) (m := m3.length) (c := c - 2 - 8) (by rfl) (k := .u8) (l := m3) rfl (Kd.C_below H3.out.2.2.2 HP.out.below) (cs := u8s (m3.take 32)) rfl (by rw [u8s_len, hr32, List.length_cons, c25_len _ z32_len]; decide) (n := 32) (by rw [u8s_len, hr32]) ?_
  intro w2 hpn
  rw [rd_root _ _ _ hr32] at hpn
  clear HP
  have HP := Aside0.mk hpn
  have HR32 := Aside0.mk hr32
  clear hpn hr32
  clear hHeld
  refine hK.out _ _ ?_ (fun hHeld => ?_)
  · (try dsimp only); exact blk_cell (HP.out.blk 0 rfl) 0
  clear hK K
  try simp only [Act.put, List.setIfInBounds_toArray, List.set_cons_zero, List.set_cons_succ]
  refine wpAnyH_done (by kernel_rfl) ?_ _
  clear hcua
  obtain ⟨rt, hrt⟩ : ∃ z, m3.take 32 = z := ⟨_, rfl⟩
  rw [hrt] at HP HR32
  have HRT := Aside0.mk hrt
  clear hrt
  obtain ⟨A4, m4, hm4, hl4, hc4, hcut4, hC4⟩ := D.from8 A3 (c - 2 - 8) m3 32 (by have := H3.out.2.1; omega) (by have := H3.out.2.1; have := HCC.out; omega) 32 rfl
  have H4m := Aside0.mk (And.intro hm4 (And.intro (show m4.length = 22 by have := H3.out.2.1; omega) (And.intro hc4 (And.intro (hC4 w H3.out.2.2.2) (show Bytes m4 from by rw [← hm4]; exact bytes_drop HB3.out 32)))))
  clear hm4 hl4 hc4 hC4
  have hc0 := blk_cell (HP.out.blk 0 rfl) 0
  have hf0 := blk_frozen (HP.out.blk 0 rfl) 0
  go_wp2_with fail
  have HPn := Aside0.mk (show Hp w _ (.blk g_r (.cells (.slice A4 m4.length (c - 2 - 8 - 32) :: c25 ⟨n8, rt, 0, 0⟩).toArray 81 (0, 0)) :: _) from HP.out.setCell 0 rfl 0 (.slice A4 m4.length (c - 2 - 8 - 32)))
  clear HP hc0 hf0 hcut4
  have HP := HPn
  clear HPn
  refine held_named (S := (fun _ => True)) (by kernel_rfl) (fun wd2 hwd2 => ?_)
  have HPn := Aside0.mk (HP.out.drewN 1)
  rw [← World.drew_is_drewN, hwd2] at HPn
  clear HP hwd2
  have HP := HPn
  clear HPn
  refine ⟨by (try dsimp only); (try trivial), fun hHeld => ?_⟩
  refine wpAnyH_take (i := 0) (oi := ({ dst := (some 74), op := (Op.move (Operand.tmp 5)), type := 77, pos := "super.go:78", after := #[], guard := none } : Oper)) (v := ?_) rfl (by kernel_rfl) (by kernel_rfl) (by kernel_rfl) (fun _ _ _ h => h) (Or.inl ⟨by rfl, ?_⟩) hHeld ?_
  rotate_left
  · intro w_ hSw; (try dsimp only at hSw); go_simp; try (with_reducible rfl)
  try simp only [Act.put, List.setIfInBounds_toArray, List.set_cons_zero, List.set_cons_succ]
  refine wpAnyH_take (i := 1) (oi := ({ dst := (some 75), op := (Op.move (Operand.tmp 5)), type := 77, pos := "super.go:78", after := #[{ on := 13, ground := (Ground.gcOnly Departure.lateStores) }], guard := none } : Oper)) (v := ?_) rfl (by kernel_rfl) (by kernel_rfl) (by kernel_rfl) (fun _ _ _ h => h) (Or.inl ⟨by rfl, ?_⟩) hHeld ?_
  rotate_left
  · intro w_ hSw; (try dsimp only at hSw); go_simp; try (with_reducible rfl)
  try simp only [Act.put, List.setIfInBounds_toArray, List.set_cons_zero, List.set_cons_succ]
  refine wpAnyH_take (i := 2) (oi := ({ dst := (some 76), op := (Op.move (Operand.tmp 5)), type := 77, pos := "super.go:78", after := #[], guard := none } : Oper)) (v := ?_) rfl (by kernel_rfl) (by kernel_rfl) (by kernel_rfl) (fun _ _ _ h => h) (Or.inl ⟨by rfl, ?_⟩) hHeld ?_
  rotate_left
  · intro w_ hSw; (try dsimp only at hSw); go_simp; try (with_reducible rfl)
  try simp only [Act.put, List.setIfInBounds_toArray, List.set_cons_zero, List.set_cons_succ]
  refine wpAnyH_take (i := 3) (oi := ({ dst := (some 77), op := (Op.nilCheck (Operand.tmp 76)), type := 0, pos := "super.go:78", after := #[{ on := 2, ground := Ground.data }], guard := none } : Oper)) (v := ?_) rfl (by kernel_rfl) (by kernel_rfl) (by kernel_rfl) (fun _ _ _ h => h) (Or.inl ⟨by rfl, ?_⟩) hHeld ?_
  rotate_left
  · intro w_ hSw; (try dsimp only at hSw); go_simp; try (with_reducible rfl)
  try simp only [Act.put, List.setIfInBounds_toArray, List.set_cons_zero, List.set_cons_succ]
  refine wpAnyH_take (i := 4) (oi := ({ dst := (some 78), op := (Op.fieldAddr 81 (Operand.tmp 77) 0), type := 0, pos := "super.go:78", after := #[{ on := 3, ground := Ground.data }], guard := none } : Oper)) (v := ?_) rfl (by kernel_rfl) (by kernel_rfl) (by kernel_rfl) (fun _ _ _ h => h) (Or.inl ⟨by rfl, ?_⟩) hHeld ?_
  rotate_left
  · intro w_ hSw; (try dsimp only at hSw); go_simp; try (with_reducible rfl)
  try simp only [Act.put, List.setIfInBounds_toArray, List.set_cons_zero, List.set_cons_succ]
  refine wpAnyH_take (i := 6) (oi := ({ dst := (some 80), op := (Op.move (Operand.tmp 5)), type := 77, pos := "super.go:78", after := #[], guard := none } : Oper)) (v := ?_) rfl (by kernel_rfl) (by kernel_rfl) (by kernel_rfl) (fun _ _ _ h => h) (Or.inl ⟨by rfl, ?_⟩) hHeld ?_
  rotate_left
  · intro w_ hSw; (try dsimp only at hSw); go_simp; try (with_reducible rfl)
  try simp only [Act.put, List.setIfInBounds_toArray, List.set_cons_zero, List.set_cons_succ]
  refine wpAnyH_take (i := 7) (oi := ({ dst := (some 81), op := (Op.nilCheck (Operand.tmp 80)), type := 0, pos := "super.go:78", after := #[{ on := 6, ground := Ground.data }], guard := none } : Oper)) (v := ?_) rfl (by kernel_rfl) (by kernel_rfl) (by kernel_rfl) (fun _ _ _ h => h) (Or.inl ⟨by rfl, ?_⟩) hHeld ?_
  rotate_left
  · intro w_ hSw; (try dsimp only at hSw); go_simp; try (with_reducible rfl)
  try simp only [Act.put, List.setIfInBounds_toArray, List.set_cons_zero, List.set_cons_succ]
  refine wpAnyH_take (i := 8) (oi := ({ dst := (some 82), op := (Op.fieldAddr 81 (Operand.tmp 81) 0), type := 0, pos := "super.go:78", after := #[{ on := 7, ground := Ground.data }], guard := none } : Oper)) (v := ?_) rfl (by kernel_rfl) (by kernel_rfl) (by kernel_rfl) (fun _ _ _ h => h) (Or.inl ⟨by rfl, ?_⟩) hHeld ?_
  rotate_left
  · intro w_ hSw; (try dsimp only at hSw); go_simp; try (with_reducible rfl)
  try simp only [Act.put, List.setIfInBounds_toArray, List.set_cons_zero, List.set_cons_succ]
  refine wpAnyH_ready (rs := [5]) (by kernel_rfl) (by simp) ?_
  refine AllReadyH.cons (o := ({ dst := (some 79), op := (Op.call { callee := (Callee.value (Operand.func 44)), args := #[(Operand.tmp 78), (Operand.const (Value.int IntKind.i64 4))], argTypes := #[79, 3] }), type := 3, pos := "super.go:78", after := #[{ on := 4, ground := Ground.data }], guard := none } : Oper)) rfl (fun K hK => ?_) AllReadyH.nil
  go_simp
  refine (c_number HP.out 0 g_r A4 m4 (c - 2 - 8 - 32) (c25 ⟨n8, rt, 0, 0⟩) 81 rfl 4 4 rfl (by have := H4m.out.2.1; omega) (by decide) (fun h => absurd h (by decide)) H4m.out.2.2.2.2 (by have := H4m.out.2.1; have := HCC.out; omega) (by have := H4m.out.2.1; omega) H4m.out.2.2.2.1).mono ?_; rintro e wna ⟨rfl, A5, m5, hm_, hlc_, hC_, hpn⟩
  clear HP
  have HP := Aside0.mk hpn
  clear hpn
  have H4m' := Aside0.mk (And.intro hm_ (And.intro (show m5.length = 18 by rw [← hm_, List.length_drop, H4m.out.2.1]) (And.intro hlc_ (And.intro hC_ (show Bytes m5 from by rw [← hm_]; exact bytes_drop H4m.out.2.2.2.2 4)))))
  clear hm_ hlc_ hC_
  obtain ⟨na, h_na⟩ : ∃ z, numI (m4.take 4) = z := ⟨_, rfl⟩
  rw [h_na]
  have Hna := Aside0.mk h_na
  clear h_na
  go_wp2_with fail
  clear hHeld
  refine hK.out _ _ ?_ (fun hHeld => ?_)
  · (try dsimp only); (try trivial)
  clear hK K
  try simp only [Act.put, List.setIfInBounds_toArray, List.set_cons_zero, List.set_cons_succ]
  refine wpAnyH_ready (rs := [9]) (by kernel_rfl) (by simp) ?_
  refine AllReadyH.cons (o := ({ dst := (some 83), op := (Op.call { callee := (Callee.value (Operand.func 44)), args := #[(Operand.tmp 82), (Operand.const (Value.int IntKind.i64 4))], argTypes := #[79, 3] }), type := 3, pos := "super.go:78", after := #[{ on := 8, ground := Ground.data }, { on := 5, ground := Ground.chain }], guard := none } : Oper)) rfl (fun K hK => ?_) AllReadyH.nil
  go_simp
  refine (c_number HP.out 0 g_r A5 m5 (c - 2 - 8 - 32 - 4) (c25 ⟨n8, rt, 0, 0⟩) 81 rfl 4 4 rfl (by have := H4m'.out.2.1; omega) (by decide) (fun h => absurd h (by decide)) H4m'.out.2.2.2.2 (by have := H4m'.out.2.1; have := HCC.out; omega) (by have := H4m'.out.2.1; omega) H4m'.out.2.2.2.1).mono ?_; rintro e wnz ⟨rfl, A6, m6, hm_, hlc_, hC_, hpn⟩
  clear HP
  have HP := Aside0.mk hpn
  clear hpn
  have H5m := Aside0.mk (And.intro hm_ (And.intro (show m6.length = 14 by rw [← hm_, List.length_drop, H4m'.out.2.1]) (And.intro hlc_ (And.intro hC_ (show Bytes m6 from by rw [← hm_]; exact bytes_drop H4m'.out.2.2.2.2 4)))))
  clear hm_ hlc_ hC_
  obtain ⟨nz, h_nz⟩ : ∃ z, numI (m5.take 4) = z := ⟨_, rfl⟩
  rw [h_nz]
  have Hnz := Aside0.mk h_nz
  clear h_nz
  go_wp2_with fail
  clear hHeld
  refine hK.out _ _ ?_ (fun hHeld => ?_)
  · (try dsimp only); (try trivial)
  clear hK K
  try simp only [Act.put, List.setIfInBounds_toArray, List.set_cons_zero, List.set_cons_succ]
  refine wpAnyH_take (i := 10) (oi := ({ dst := (some 84), op := (Op.nilCheck (Operand.tmp 74)), type := 0, pos := "super.go:78", after := #[{ on := 0, ground := Ground.data }, { on := 0, ground := Ground.phase }, { on := 1, ground := (Ground.textOnly Departure.lateStores) }, { on := 2, ground := Ground.phase }, { on := 3, ground := Ground.phase }, { on := 4, ground := Ground.phase }, { on := 5, ground := Ground.phase }, { on := 6, ground := (Ground.textOnly Departure.lateStores) }, { on := 7, ground := (Ground.textOnly Departure.lateStoresUnsure) }, { on := 8, ground := (Ground.textOnly Departure.lateStoresUnsure) }, { on := 9, ground := Ground.phase }], guard := none } : Oper)) (v := ?_) rfl (by kernel_rfl) (by kernel_rfl) (by kernel_rfl) (fun _ _ _ h => h) (Or.inl ⟨by rfl, ?_⟩) hHeld ?_
  rotate_left
  · intro w_ hSw; (try dsimp only at hSw); go_simp; try (with_reducible rfl)
  try simp only [Act.put, List.setIfInBounds_toArray, List.set_cons_zero, List.set_cons_succ]
  refine wpAnyH_take (i := 11) (oi := ({ dst := (some 85), op := (Op.fieldAddr 81 (Operand.tmp 84) 1), type := 0, pos := "super.go:78", after := #[{ on := 10, ground := Ground.data }, { on := 0, ground := Ground.phase }, { on := 1, ground := (Ground.textOnly Departure.lateStores) }, { on := 2, ground := Ground.phase }, { on := 3, ground := Ground.phase }, { on := 4, ground := Ground.phase }, { on := 5, ground := Ground.phase }, { on := 6, ground := (Ground.textOnly Departure.lateStores) }, { on := 7, ground := (Ground.textOnly Departure.lateStoresUnsure) }, { on := 8, ground := (Ground.textOnly Departure.lateStoresUnsure) }, { on := 9, ground := Ground.phase }], guard := none } : Oper)) (v := ?_) rfl (by kernel_rfl) (by kernel_rfl) (by kernel_rfl) (fun _ _ _ h => h) (Or.inl ⟨by rfl, ?_⟩) hHeld ?_
  rotate_left
  · intro w_ hSw; (try dsimp only at hSw); go_simp; try (with_reducible rfl)
  try simp only [Act.put, List.setIfInBounds_toArray, List.set_cons_zero, List.set_cons_succ]
  refine wpAnyH_take (i := 12) (oi := ({ dst := (some 86), op := (Op.fieldAddr 25 (Operand.tmp 85) 2), type := 0, pos := "super.go:78", after := #[{ on := 11, ground := Ground.data }, { on := 0, ground := Ground.phase }, { on := 1, ground := (Ground.textOnly Departure.lateStores) }, { on := 2, ground := Ground.phase }, { on := 3, ground := Ground.phase }, { on := 4, ground := Ground.phase }, { on := 5, ground := Ground.phase }, { on := 6, ground := (Ground.textOnly Departure.lateStores) }, { on := 7, ground := (Ground.textOnly Departure.lateStoresUnsure) }, { on := 8, ground := (Ground.textOnly Departure.lateStoresUnsure) }, { on := 9, ground := Ground.phase }], guard := none } : Oper)) (v := ?_) rfl (by kernel_rfl) (by kernel_rfl) (by kernel_rfl) (fun _ _ _ h => h) (Or.inl ⟨by rfl, ?_⟩) hHeld ?_
  rotate_left
  · intro w_ hSw; (try dsimp only at hSw); go_simp; try (with_reducible rfl)
  try simp only [Act.put, List.setIfInBounds_toArray, List.set_cons_zero, List.set_cons_succ]
  refine wpAnyH_ready (rs := [13]) (by kernel_rfl) (by simp) ?_
  refine AllReadyH.cons (o := ({ dst := none, op := (Op.store 3 (Operand.tmp 86) (Operand.tmp 79)), type := 0, pos := "super.go:78", after := #[{ on := 12, ground := Ground.data }, { on := 5, ground := Ground.data }, { on := 9, ground := Ground.chain }, { on := 0, ground := Ground.phase }, { on := 1, ground := (Ground.textOnly Departure.lateStores) }, { on := 2, ground := Ground.phase }, { on := 3, ground := Ground.phase }, { on := 4, ground := Ground.phase }, { on := 5, ground := Ground.phase }, { on := 6, ground := (Ground.textOnly Departure.lateStores) }, { on := 7, ground := (Ground.textOnly Departure.lateStoresUnsure) }, { on := 8, ground := (Ground.textOnly Departure.lateStoresUnsure) }, { on := 9, ground := Ground.phase }], guard := none } : Oper)) rfl (fun K hK => ?_) AllReadyH.nil
  have hcS := blk_cell (HP.out.blk 0 rfl) 34
  have hfS := blk_frozen (HP.out.blk 0 rfl) 34
  have hcS2 := (show (.slice A6 m6.length (c - 2 - 8 - 32 - 4 - 4) :: c25 ⟨n8, rt, 0, 0⟩)[34]? = some (Value.int .i64 0) from c25_33 ⟨n8, rt, 0, 0⟩ HR32.out)
  replace hcS := hcS.trans (by simpa using hcS2)
  clear hcS2
  go_simp
  have HPn := Aside0.mk (HP.out.setCell 0 rfl 34 (.int .i64 na))
  rw [rd_set34 _ _ _ _ HR32.out] at HPn
  clear HP hcS hfS
  have HP := HPn
  clear HPn
  clear hHeld
  refine hK.out _ _ ?_ (fun hHeld => ?_)
  · (try dsimp only); (try trivial)
  clear hK K
  try simp only [Act.put, List.setIfInBounds_toArray, List.set_cons_zero, List.set_cons_succ]
  refine wpAnyH_take (i := 14) (oi := ({ dst := (some 87), op := (Op.nilCheck (Operand.tmp 75)), type := 0, pos := "super.go:78", after := #[{ on := 1, ground := Ground.data }, { on := 0, ground := Ground.phase }, { on := 1, ground := Ground.phase }, { on := 2, ground := Ground.phase }, { on := 3, ground := Ground.phase }, { on := 4, ground := Ground.phase }, { on := 5, ground := Ground.phase }, { on := 6, ground := Ground.phase }, { on := 7, ground := Ground.phase }, { on := 8, ground := Ground.phase }, { on := 9, ground := Ground.phase }, { on := 10, ground := Ground.phase }, { on := 11, ground := Ground.phase }, { on := 12, ground := Ground.phase }, { on := 13, ground := Ground.phase }], guard := none } : Oper)) (v := ?_) rfl (by kernel_rfl) (by kernel_rfl) (by kernel_rfl) (fun _ _ _ h => h) (Or.inl ⟨by rfl, ?_⟩) hHeld ?_
  rotate_left
  · intro w_ hSw; (try dsimp only at hSw); go_simp; try (with_reducible rfl)
  try simp only [Act.put, List.setIfInBounds_toArray, List.set_cons_zero, List.set_cons_succ]
  refine wpAnyH_take (i := 15) (oi := ({ dst := (some 88), op := (Op.fieldAddr 81 (Operand.tmp 87) 1), type := 0, pos := "super.go:78", after := #[{ on := 14, ground := Ground.data }, { on := 0, ground := Ground.phase }, { on := 1, ground := Ground.phase }, { on := 2, ground := Ground.phase }, { on := 3, ground := Ground.phase }, { on := 4, ground := Ground.phase }, { on := 5, ground := Ground.phase }, { on := 6, ground := Ground.phase }, { on := 7, ground := Ground.phase }, { on := 8, ground := Ground.phase }, { on := 9, ground := Ground.phase }, { on := 10, ground := Ground.phase }, { on := 11, ground := Ground.phase }, { on := 12, ground := Ground.phase }, { on := 13, ground := Ground.phase }], guard := none } : Oper)) (v := ?_) rfl (by kernel_rfl) (by kernel_rfl) (by kernel_rfl) (fun _ _ _ h => h) (Or.inl ⟨by rfl, ?_⟩) hHeld ?_
  rotate_left
  · intro w_ hSw; (try dsimp only at hSw); go_simp; try (with_reducible rfl)
  try simp only [Act.put, List.setIfInBounds_toArray, List.set_cons_zero, List.set_cons_succ]
  refine wpAnyH_take (i := 16) (oi := ({ dst := (some 89), op := (Op.fieldAddr 25 (Operand.tmp 88) 3), type := 0, pos := "super.go:78", after := #[{ on := 15, ground := Ground.data }, { on := 0, ground := Ground.phase }, { on := 1, ground := Ground.phase }, { on := 2, ground := Ground.phase }, { on := 3, ground := Ground.phase }, { on := 4, ground := Ground.phase }, { on := 5, ground := Ground.phase }, { on := 6, ground := Ground.phase }, { on := 7, ground := Ground.phase }, { on := 8, ground := Ground.phase }, { on := 9, ground := Ground.phase }, { on := 10, ground := Ground.phase }, { on := 11, ground := Ground.phase }, { on := 12, ground := Ground.phase }, { on := 13, ground := Ground.phase }], guard := none } : Oper)) (v := ?_) rfl (by kernel_rfl) (by kernel_rfl) (by kernel_rfl) (fun _ _ _ h => h) (Or.inl ⟨by rfl, ?_⟩) hHeld ?_
  rotate_left
  · intro w_ hSw; (try dsimp only at hSw); go_simp; try (with_reducible rfl)
  try simp only [Act.put, List.setIfInBounds_toArray, List.set_cons_zero, List.set_cons_succ]
  refine wpAnyH_ready (rs := [17]) (by kernel_rfl) (by simp) ?_
  refine AllReadyH.cons (o := ({ dst := none, op := (Op.store 3 (Operand.tmp 89) (Operand.tmp 83)), type := 0, pos := "super.go:78", after := #[{ on := 16, ground := Ground.data }, { on := 9, ground := Ground.data }, { on := 13, ground := Ground.chain }, { on := 0, ground := Ground.phase }, { on := 1, ground := Ground.phase }, { on := 2, ground := Ground.phase }, { on := 3, ground := Ground.phase }, { on := 4, ground := Ground.phase }, { on := 5, ground := Ground.phase }, { on := 6, ground := Ground.phase }, { on := 7, ground := Ground.phase }, { on := 8, ground := Ground.phase }, { on := 9, ground := Ground.phase }, { on := 10, ground := Ground.phase }, { on := 11, ground := Ground.phase }, { on := 12, ground := Ground.phase }, { on := 13, ground := Ground.phase }], guard := none } : Oper)) rfl (fun K hK => ?_) AllReadyH.nil
  have hcS := blk_cell (HP.out.blk 0 rfl) 35
  have hfS := blk_frozen (HP.out.blk 0 rfl) 35
  have hcS2 := (show (.slice A6 m6.length (c - 2 - 8 - 32 - 4 - 4) :: c25 ⟨n8, rt, na, 0⟩)[35]? = some (Value.int .i64 0) from c25_34 ⟨n8, rt, na, 0⟩ HR32.out)
  replace hcS := hcS.trans (by simpa using hcS2)
  clear hcS2
  go_simp
  have HPn := Aside0.mk (HP.out.setCell 0 rfl 35 (.int .i64 nz))
  rw [rd_set35 _ _ _ _ _ HR32.out] at HPn
  clear HP hcS hfS
  have HP := HPn
  clear HPn
  clear hHeld
  refine hK.out _ _ ?_ (fun hHeld => ?_)
  · (try dsimp only); (try trivial)
  clear hK K
  try simp only [Act.put, List.setIfInBounds_toArray, List.set_cons_zero, List.set_cons_succ]
  refine wpAnyH_done (by kernel_rfl) ?_ _
  have HRS := Aside0.mk (show readS b = ⟨n8, rt, na, nz⟩ from by
    have e2 := H2.out.1
    have e3 := H3.out.1
    have e4 := H4m.out.1
    have e5 := H4m'.out.1
    unfold readS
    rw [← HN8.out, ← HRT.out, ← Hna.out, ← Hnz.out, ← e5, ← e4, ← e3, ← e2]
    congr 1
    · rw [List.drop_take]
    · rw [List.drop_take, List.drop_drop]
    · rw [List.drop_take, List.drop_drop, List.drop_drop]
    · rw [List.drop_take, List.drop_drop, List.drop_drop, List.drop_drop])
  have CK := Aside0.mk (fun w => c_check ⟨n8, rt, na, nz⟩ HR32.out w)
  have HCL := Aside0.mk (c25_len ⟨n8, rt, na, nz⟩ HR32.out)
  have HC1 := Aside0.mk (c25_one ⟨n8, rt, na, nz⟩)
  rw [HRS.out] at HT HIP
  obtain ⟨S, hS⟩ : ∃ z : SP, ⟨n8, rt, na, nz⟩ = z := ⟨_, rfl⟩
  rw [hS] at HT HIP CK HCL HP HC1
  clear hS HRS
  obtain ⟨cS, hcS⟩ : ∃ z, c25 S = z := ⟨_, rfl⟩
  rw [hcS] at CK HCL HP HC1
  have HCS := Aside0.mk hcS
  clear hcS
  go_wp2_with (first | ((with_reducible refine gate_dst (N := 93) rfl ?_); refine wpList_load_mid rfl 25 (.tmp 92) rfl g_r 1 rfl cS _ (rd_range (HP.out.blk 0 rfl)) Try.underlying25 rfl (by rw [HCL.out]; kernel_rfl) ?_))
  refine (CK.out _).mono ?_; rintro e wn9 ⟨rfl, hb⟩; have HPn := Aside0.mk (HP.out.call hb); clear HP; have HP := HPn; clear HPn; clear hb
  by_cases a6 : chk S = true
  rotate_left
  · have hk : chkE S = 2 := by unfold chkE; rw [if_neg a6]
    rw [hk]
    have HN := Aside0.mk (show isS b = false from by rw [Bool.eq_false_iff]; intro h; exact a6 (HIP.out.1 h).2.2.2.2.2)
    clear a6 hk
    go_wp2_with (first | ((with_reducible refine gate_store (t := 25) (p := 2) rfl ?_); refine ev_store rfl 25 (.tmp 2) (.tmp 96) rfl rfl _ rfl (cells := (c25 s0).toArray) rfl (HP.out.blk 2 rfl) (by rw [List.size_toArray, c25_len s0 rfl]; kernel_rfl) (by rfl) (c25_one s0) ?_; intro wz hg hgr; have HPn := Aside0.mk (HP.out.setB 2 rfl hgr hg); clear HP; have HP := HPn; clear HPn; clear hg hgr))
    refine bodyPost_ret (resCT rfl _ _ rfl (HP.out.blk 2 rfl) Try.underlying25 rfl (by rw [List.size_toArray, c25_len s0 rfl]; kernel_rfl) rfl) rfl ?_
    exact ⟨by rw [HF.out HN.out, HN.out]; rfl, HP.out.below⟩
  have hk : chkE S = 0 := by unfold chkE; rw [if_pos a6]
  rw [hk]
  have HN := Aside0.mk (show isS b = true from HIP.out.2 ⟨HL.out, HKK.out.1, HKK.out.2, H4.out, H5.out, a6⟩)
  clear a6 hk
  go_wp2_with (first | ((with_reducible refine gate_dst (N := 100) rfl ?_); refine wpList_load_mid rfl 25 (.tmp 99) rfl g_r 1 rfl cS _ (rd_range (HP.out.blk 0 rfl)) Try.underlying25 rfl (by rw [HCL.out]; kernel_rfl) ?_) | ((with_reducible refine gate_store (t := 25) (p := 2) rfl ?_); refine ev_store rfl 25 (.tmp 2) (.tmp 100) rfl rfl _ rfl (cells := cS.toArray) rfl (HP.out.blk 2 rfl) (by rw [List.size_toArray, HCL.out]; kernel_rfl) (show (c25 s0).toArray.size = cS.toArray.size from by rw [List.size_toArray, List.size_toArray, HCL.out, c25_len s0 rfl]) HC1.out ?_; intro wz hg hgr; have HPn := Aside0.mk (HP.out.setB 2 rfl hgr hg); clear HP; have HP := HPn; clear HPn; clear hg hgr))
  refine bodyPost_ret (resCT rfl _ _ rfl (HP.out.blk 2 rfl) Try.underlying25 rfl (by rw [List.size_toArray, HCL.out]; kernel_rfl) rfl) rfl ?_
  exact ⟨by rw [HT.out HN.out, HN.out, HCS.out]; rfl, HP.out.below⟩
end Go.Proofs.Ytgflghnbpbiakaa.Su
