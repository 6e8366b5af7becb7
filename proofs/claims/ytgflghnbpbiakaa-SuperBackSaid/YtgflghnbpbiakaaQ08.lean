import Derived.Test.YtgflghnbpbiakaaQ07
import Derived.Test.YtgflghnbpbiakaaQ05
namespace Go.Proofs.Ytgflghnbpbiakaa.Su
open Go.Proofs.Ytgflghnbpbiakaa.H hiding C_ints cellL cellN ev_copy ev_store_mid frozC i64k run_cut_all run_cut_arr run_cut_to setL set_self
open Go.RowKit Go.Proofs.Ytgflghnbpbiakaa.XH Go.Proofs.YtgflghnbpbiakaaW.PrintWords Go.Proofs.YtgflghnbpbiakaaW.PrintLast Go.Proofs.YtgflghnbpbiakaaW.PrintMore Go.Proofs.YtgflghnbpbiakaaXe Go.Proofs.YtgflghnbpbiakaaXs
set_option linter.unusedVariables false
set_option linter.unusedSimpArgs false
attribute [local go_sem ↓] Go.wp_at_zero Go.wp_at_succ
attribute [local go_sem] valUpon
open Go.Proofs.Ytgflghnbpbiakaa.D hiding c_len c_new c_write
attribute [local go_sem ↓ high] bn23 bn25
attribute [local go_sem high] BN25.z BN25.num BN25.two
theorem resC {P : Program} {fn : Func} {p : Tmp} {ty : TypeId} (h : fn.results = #[.cell p ty]) (tmps : Array Value) (w : World) {g : Nat} {t : TypeId} {cs : Array Value} {fr : Nat × Nat} {d : TypeDesc}
    (hp : tmps.getD p undef = .pointer (some ⟨g, 0, none⟩)) (hg : w.heap[g]? = some (.cells cs t fr)) (hu : P.underlying ty = some d) (hd : (match d with | .struct _ | .array _ _ => true | _ => false) = true) (hi : (P.info? ty).map (·.size) = some cs.size) : (results fn tmps).run P w = .ok (.agg cs) w := by
  have hp' : tmps[p]?.getD undef = .pointer (some ⟨g, 0, none⟩) := by simpa using hp
  simp [results, h, hp', asAddr, run_loadVar_row w g t ty cs fr d hg hu hd hi]
def ofS (n : Int) : SP := ⟨n, z32, 0, 0⟩
theorem z32_bytes : Bytes z32 := fun x hx => by rw [(List.mem_replicate.1 hx).2]; decide
def stt (S : DS) (b0 b1 : List Int) : Prop := S.out = false ∧ S.fuse = -1 ∧ S.many = 4 ∧ sec S 0 = b0 ∧ sec S 1 = b1 ∧ okD S ∧ S.l.length ≤ 10
def stD (b0 b1 : List Int) (k : Int) : List Int := if k = 0 then b0 else b1
theorem stt_sec {S : DS} {b0 b1 : List Int} (h : stt S b0 b1) {k : Int} (hk : k = 0 ∨ k = 1) : sec S k = stD b0 b1 k := by
  rcases hk with rfl | rfl
  · exact h.2.2.2.1
  · exact h.2.2.2.2.1
theorem stt_new : stt (newS 4) s64' s64' := by
  refine ⟨rfl, rfl, rfl, rfl, rfl, ⟨fun k => ⟨rfl, s64'_b⟩, fun p hp => by simp [newS] at hp, by decide⟩, by decide⟩
theorem stt_slots {S : DS} {b0 b1 : List Int} (h : stt S b0 b1) : slotsE S = 0 := by
  obtain ⟨h1, h2, h3, _⟩ := h
  unfold slotsE
  rw [h1, h3]
  rfl
theorem stt_best {S : DS} {b0 b1 : List Int} (h : stt S b0 b1) : bestD S = bestB b0 b1 := by
  unfold bestD
  rw [h.2.2.2.1, h.2.2.2.2.1]
theorem stt_write {S : DS} {b0 b1 : List Int} (h : stt S b0 b1) (o : Int) (ho : o = 0 ∨ o = 1) (b : List Int) (hb : b.length = 64) (hB : Bytes b) (hl : S.l.length ≤ 9) : writeE S o b = 0 ∧ stt (writeS S o b) (if o = 0 then b else b0) (if o = 1 then b else b1) ∧ (writeS S o b).l = S.l ++ [(o, b)] := by
  obtain ⟨h1, h2, h3, h4, h5, h6, h7⟩ := h
  have hr : S.readyE o = 0 := by unfold DS.readyE readyD; rw [h1, h3]; rcases ho with rfl | rfl <;> rfl
  have hw : writeS S o b = { S.step with l := S.l ++ [(o, b)] } := by
    unfold writeS
    rw [if_neg (by rw [hr]; decide), if_neg (by rw [hb]; decide), if_neg (by rw [h2]; decide)]
  refine ⟨?_, ?_, by rw [hw]⟩
  · unfold writeE
    rw [if_neg (by rw [hr]; decide), if_neg (by rw [hb]; decide), if_neg (by rw [h2]; decide)]
  · rw [hw]
    have hsec : ∀ k, sec { S.step with l := S.l ++ [(o, b)] } k = if o = k then b else sec S k := fun k => by
      unfold sec
      show putF S.at' (S.l ++ [(o, b)]) k = _
      rw [putF_snoc]
    refine ⟨h1, ?_, h3, ?_, ?_, ⟨h6.1, fun p hp => ?_, ?_⟩, ?_⟩
    · show burn S.fuse = -1
      rw [h2]; rfl
    · rw [hsec, h4]
    · rw [hsec, h5]
    · rcases List.mem_append.1 hp with hp | hp
      · exact h6.2.1 p hp
      · rw [List.mem_singleton.1 hp]; exact ⟨hb, hB⟩
    · show (S.l ++ [(o, b)]).length ≤ 1000
      rw [List.length_append]; simp; omega
    · show (S.l ++ [(o, b)]).length ≤ 10
      rw [List.length_append]; simp; omega
theorem stt_flush {S : DS} {b0 b1 : List Int} (h : stt S b0 b1) : flushE S = 0 ∧ stt (flushS S) b0 b1 ∧ (flushS S).l = [] := by
  have hok := h.2.2.2.2.2.1
  have hsok := fun k => sec_ok hok k
  obtain ⟨h1, h2, h3, h4, h5, h6, h7⟩ := h
  have hn : ¬ (S.out = true ∨ S.fuse = 0) := by rw [h1, h2]; decide
  have hf : flushS S = { S.step with at' := putF S.at' S.l, l := [] } := by unfold flushS; rw [if_neg hn]
  refine ⟨by unfold flushE; rw [if_neg hn], ?_, by rw [hf]⟩
  rw [hf]
  refine ⟨h1, ?_, h3, h4, h5, ?_, Nat.zero_le _⟩
  · show burn S.fuse = -1
    rw [h2]; rfl
  · exact ⟨hsok, fun p (hp : p ∈ ([] : List (Int × List Int))) => by simp at hp, Nat.zero_le _⟩
theorem packS_bytes (s : SP) (hB : Bytes s.root) : Bytes (packS s) := by
  intro x hx
  rcases List.mem_append.1 hx with h | h
  · exact fifS_bytes s hB x h
  · exact sha_byteB _ x (List.mem_of_mem_take h)
theorem stt_save {S : DS} {b0 b1 : List Int} (h : stt S b0 b1) (hl : S.l.length ≤ 9) (s : SP) (hr : s.root.length = 32) (hB : Bytes s.root) (hk : chk s = true) (o : Int) (ho : (if bestB b0 b1 = 0 then (1 : Int) else 0) = o) (ht : ¬ (0 ≤ bestB b0 b1 ∧ s.num ≤ (unpS (stD b0 b1 (bestB b0 b1))).num)) :
    saveE S s = 0 ∧ stt (saveS S s) (if o = 0 then packS s else b0) (if o = 1 then packS s else b1) ∧ (saveS S s).l = [] := by
  have hbd := stt_best h
  have hoo : otherD S = o := by unfold otherD; rw [hbd]; exact ho
  have ho01 : o = 0 ∨ o = 1 := by rw [← ho]; split <;> simp
  have hlate : lateD S s = false := by
    have hb3 : 0 ≤ bestB b0 b1 → bestB b0 b1 = 0 ∨ bestB b0 b1 = 1 := fun h0 => by
      have := best_cases S
      rw [hbd] at this
      rcases this with h1 | h1 | h1
      · omega
      · exact .inl h1.1
      · exact .inr h1.1
    unfold lateD
    rw [hbd]
    by_cases h0 : 0 ≤ bestB b0 b1
    · rw [stt_sec h (hb3 h0)]
      have : ¬ s.num ≤ (unpS (stD b0 b1 (bestB b0 b1))).num := fun h1 => ht ⟨h0, h1⟩
      simp [this]
    · simp [h0]
  obtain ⟨w1, w2, w3⟩ := stt_write h o ho01 (packS s) (packS_len s hr) (packS_bytes s hB) hl
  obtain ⟨f1, f2, f3⟩ := stt_flush w2
  have e1 : saveE S s = 0 := by
    unfold saveE
    rw [if_neg (by rw [hk]; decide), if_neg (by rw [stt_slots h]; decide), if_neg (by rw [hlate]; decide), hoo, if_neg (by rw [w1]; decide)]
    exact f1
  have e2 : saveS S s = flushS (writeS S o (packS s)) := by
    unfold saveS
    rw [if_neg (by rw [hk]; decide), if_neg (by rw [stt_slots h]; decide), if_neg (by rw [hlate]; decide), hoo, if_neg (by rw [w1]; decide)]
  rw [e2]
  exact ⟨e1, f2, f3⟩
theorem stt_late {S : DS} {b0 b1 : List Int} (h : stt S b0 b1) (s : SP) (hk : chk s = true) (hb : bestB b0 b1 = 0 ∨ bestB b0 b1 = 1) (ht : s.num ≤ (unpS (stD b0 b1 (bestB b0 b1))).num) : saveE S s = 5 ∧ saveS S s = S := by
  have hbd := stt_best h
  have hlate : lateD S s = true := by
    unfold lateD
    rw [hbd, stt_sec h hb]
    have h0 : 0 ≤ bestB b0 b1 := by omega
    simp [h0, ht]
  constructor
  · unfold saveE
    rw [if_neg (by rw [hk]; decide), if_neg (by rw [stt_slots h]; decide), if_pos hlate]
  · unfold saveS
    rw [if_neg (by rw [hk]; decide), if_neg (by rw [stt_slots h]; decide), if_pos hlate]
theorem stt_load {S : DS} {b0 b1 : List Int} (h : stt S b0 b1) (hb : bestB b0 b1 = 0 ∨ bestB b0 b1 = 1) : loadE S = 0 ∧ loadK S = bestB b0 b1 ∧ loadS S = unpS (stD b0 b1 (bestB b0 b1)) := by
  have hbd := stt_best h
  have hs := stt_slots h
  have h0 : 0 ≤ bestB b0 b1 := by omega
  refine ⟨?_, ?_, ?_⟩
  · unfold loadE; rw [hbd, if_neg (by rw [hs]; decide), if_pos h0]
  · unfold loadK; rw [hbd, if_neg (by rw [hs]; decide), if_pos h0]
  · unfold loadS; rw [hbd, if_neg (by rw [hs]; decide), if_pos h0, stt_sec h hb]
theorem isS_zero : isS s64' = false := by
  rw [Bool.eq_false_iff]
  intro h
  have := ((isS_prog s64' s64'_b).1 h).2.1
  revert this
  decide
theorem best_zz : bestB s64' s64' = -1 := by unfold bestB; rw [isS_zero]; rfl
theorem best_pz (s : SP) (hr : s.root.length = 32) (hk : chk s = true) : bestB (packS s) s64' = 0 := by unfold bestB; rw [isS_zero, isS_pack s hr hk]; rfl
theorem best_pp (s t : SP) (hr : s.root.length = 32) (hk : chk s = true) (hr2 : t.root.length = 32) (hk2 : chk t = true) (h : s.num < t.num) : bestB (packS s) (packS t) = 1 := by
  unfold bestB
  rw [isS_pack s hr hk, isS_pack t hr2 hk2, unpS_pack s hr hk, unpS_pack t hr2 hk2, if_pos rfl, if_pos rfl, if_pos h]
theorem eq25_run (a b : SP) (ha : a.root.length = 32) (hb : b.root.length = 32) (h : a = b) : ∀ d w, (Op.equalIn (d + 3) 25 (.agg (c25 a).toArray) (.agg (c25 b).toArray)).run Try.prog w = .ok true w := fun d w => by
  subst h
  exact eq25_same d a ha w
set_option maxHeartbeats 8000000 in
set_option maxRecDepth 100000 in
theorem c_of (n : Int) (w : World) : Calls Try.prog 22 #[.int .i64 n] w fun e w' => e = .returned (.agg (c25 (ofS n)).toArray) ∧ Below w.heap.size w w' := by
  have HP := Aside0.mk (Hp.start w)
  go_enter Try.func22, Try.ntmps22
  go_wp2_with (first | ((with_reducible refine gate_dst (N := 2) rfl ?_); refine ev_alloc rfl 25 rfl (.agg (c25 s0).toArray) (by kernel_rfl) ?_; intro g_o w1 hge hg hb; have HPn := Aside0.mk (HP.out.newB hb hg hge); clear HP; have HP := HPn; clear HPn; clear hge hg hb) | ((with_reducible refine gate_store (t := 25) (p := 2) rfl ?_); refine ev_store rfl 25 (.tmp 2) (.tmp 4) rfl rfl _ rfl (cells := (c25 (ofS n)).toArray) rfl (HP.out.blk 0 rfl) (by rw [List.size_toArray, c25_len (ofS n) rfl]; kernel_rfl) (by rfl) (c25_one _) ?_; intro w2 hg hgr; have HPn := Aside0.mk (HP.out.setB 0 rfl hgr hg); clear HP; have HP := HPn; clear HPn; clear hg hgr))
  refine bodyPost_ret (resC rfl _ _ rfl (HP.out.blk 0 rfl) Try.underlying25 rfl (by rw [List.size_toArray, c25_len (ofS n) rfl]; kernel_rfl)) rfl ?_
  exact ⟨rfl, HP.out.below⟩
set_option maxHeartbeats 8000000 in
set_option maxRecDepth 100000 in
theorem c_made13 {w0 w : World} {Rs : List Res} (HP : Hp w0 w Rs) (n : Int) (h0 : 0 ≤ n) (h1 : n ≤ 65536) :
    Calls Try.prog 21 #[.int .i64 n] w fun e w' => ∃ g, e = .returned (.pointer (some ⟨g, 0, none⟩)) ∧ Hp w0 w' (rDisk w0.heap.size g (newS n) :: Rs) := by
  have HPn := Aside0.mk HP
  have HN := Aside0.mk (And.intro h0 h1)
  clear HP h0 h1
  have HP := HPn
  clear HPn
  go_enter Try.func21, Try.ntmps21
  go_wp2_with fail
  refine (c_newD HP.out n HN.out.1 HN.out.2).mono ?_; rintro e wa ⟨g, rfl, hpn⟩
  go_wp2_with fail
  go_ret
  exact ⟨g, rfl, hpn⟩
set_option maxHeartbeats 8000000 in
set_option maxRecDepth 100000 in
theorem c_fails {w0 w : World} {Rs : List Res} (HP0 : Hp w0 w Rs) (i g : Nat) (S : DS) (hi : Rs[i]? = some (rDisk w0.heap.size g S)) (hok : okD S) (want : Int) (h : loadE S = want ∧ loadK S = 0 ∧ loadS S = s0) :
    Calls Try.prog 24 #[.pointer (some ⟨g, 0, none⟩), .int .i64 want] w fun e w' => e = .returned (.bool true) ∧ Hp w0 w' Rs := by
  have HP := Aside0.mk HP0
  have CL := Aside0.mk (fun (w : World) (HP : Hp w0 w Rs) => c_load HP i g S hi hok)
  rw [h.1, h.2.1, h.2.2] at CL
  have heq := eq25_run s0 s0 rfl rfl rfl
  have HSL := Aside0.mk (c25_len s0 rfl)
  clear HP0 hi hok h
  go_enter Try.func24, Try.ntmps24
  go_wp2_with fail
  refine (CL.out _ HP.out).mono ?_; rintro e w1 ⟨rfl, hpn⟩
  clear HP
  have HP := Aside0.mk hpn
  clear hpn
  go_wp2_with (first | ((with_reducible refine gate_dst (N := 5) rfl ?_); refine ev_alloc rfl 25 rfl (.agg (c25 s0).toArray) (by kernel_rfl) ?_; intro g_o w2 hge hg hb; have HPn := Aside0.mk (HP.out.newB hb hg hge); clear HP; have HP := HPn; clear HPn; clear hge hg hb) | ((with_reducible refine gate_store (t := 25) (p := 5) rfl ?_); refine ev_store rfl 25 (.tmp 5) (.tmp 11) rfl rfl _ rfl (cells := (c25 s0).toArray) rfl (HP.out.blk 0 rfl) (by rw [List.size_toArray, HSL.out]; kernel_rfl) (by rfl) (c25_one _) ?_; intro w3 hg hgr; have HPn := Aside0.mk (HP.out.setB 0 rfl hgr hg); clear HP; have HP := HPn; clear HPn; clear hg hgr) | ((with_reducible refine gate_dst (N := 18) rfl ?_); refine ev_load rfl 25 (.tmp 5) rfl g_o rfl (HP.out.blk 0 rfl) Try.underlying25 rfl (by rw [List.size_toArray, HSL.out]; kernel_rfl) ?_))
  go_ret
  exact ⟨rfl, HP.out.drop1⟩
set_option maxHeartbeats 8000000 in
set_option maxRecDepth 100000 in
theorem c_loads {w0 w : World} {Rs : List Res} (HP0 : Hp w0 w Rs) (i g : Nat) (S : DS) (hi : Rs[i]? = some (rDisk w0.heap.size g S)) (hok : okD S) (s : SP) (hr : s.root.length = 32) (k : Int) (h : loadE S = 0 ∧ loadK S = k ∧ loadS S = s) :
    Calls Try.prog 25 #[.pointer (some ⟨g, 0, none⟩), .agg (c25 s).toArray, .int .i64 k] w fun e w' => e = .returned (.bool true) ∧ Hp w0 w' Rs := by
  have HP := Aside0.mk HP0
  have CL := Aside0.mk (fun (w : World) (Ra : Res) (HP : Hp w0 w (Ra :: Rs)) => c_load HP (i + 1) g S hi hok)
  rw [h.1, h.2.1, h.2.2] at CL
  have heq := eq25_run s s hr hr rfl
  have HSL := Aside0.mk (c25_len s hr)
  have HS1 := Aside0.mk (c25_one s)
  obtain ⟨cs, hcs⟩ : ∃ z, c25 s = z := ⟨_, rfl⟩
  rw [hcs] at CL HSL HS1 heq ⊢
  clear HP0 hi hok h hcs hr
  go_enter Try.func25, Try.ntmps25
  go_wp2_with (first | ((with_reducible refine gate_dst (N := 4) rfl ?_); refine ev_box rfl 25 (.tmp 1) rfl (cs.toArray) rfl ?_; intro g_s w1 hge hg hb; have HPn := Aside0.mk (HP.out.newB hb hg hge); clear HP; have HP := HPn; clear HPn; clear hge hg hb))
  refine (CL.out _ _ HP.out).mono ?_; rintro e w2 ⟨rfl, hpn⟩
  clear HP
  have HP := Aside0.mk hpn
  clear hpn
  go_wp2_with (first | ((with_reducible refine gate_dst (N := 7) rfl ?_); refine ev_alloc rfl 25 rfl (.agg (c25 s0).toArray) (by kernel_rfl) ?_; intro g_o w3 hge hg hb; have HPn := Aside0.mk (HP.out.newB hb hg hge); clear HP; have HP := HPn; clear HPn; clear hge hg hb) | ((with_reducible refine gate_store (t := 25) (p := 7) rfl ?_); refine ev_store rfl 25 (.tmp 7) (.tmp 13) rfl rfl _ rfl (cells := cs.toArray) rfl (HP.out.blk 0 rfl) (by rw [List.size_toArray, HSL.out]; kernel_rfl) (show (c25 s0).toArray.size = cs.toArray.size from by rw [List.size_toArray, List.size_toArray, HSL.out, c25_len s0 rfl]) HS1.out ?_; intro w4 hg hgr; have HPn := Aside0.mk (HP.out.setB 0 rfl hgr hg); clear HP; have HP := HPn; clear HPn; clear hg hgr) | ((with_reducible refine gate_dst (N := 19) rfl ?_); refine ev_load rfl 25 (.tmp 7) rfl g_o rfl (HP.out.blk 0 rfl) Try.underlying25 rfl (by rw [List.size_toArray, HSL.out]; kernel_rfl) ?_) | ((with_reducible refine gate_dst (N := 20) rfl ?_); refine ev_load rfl 25 (.tmp 4) rfl g_s rfl (HP.out.blk 1 rfl) Try.underlying25 rfl (by rw [List.size_toArray, HSL.out]; kernel_rfl) ?_))
  go_ret
  exact ⟨rfl, HP.out.drop1.drop1⟩
theorem chk1 : chk (ofS 1) = true := by decide
theorem chk2 : chk (ofS 2) = true := by decide
/-- the examples' disk: new, with the first one saved, and with the second one -/
theorem exA : ∃ S1 S2, saveE (newS 4) (ofS 1) = 0 ∧ saveS (newS 4) (ofS 1) = S1 ∧ stt S1 (packS (ofS 1)) s64' ∧ S1.l = [] ∧ saveE S1 (ofS 2) = 0 ∧ saveS S1 (ofS 2) = S2 ∧ stt S2 (packS (ofS 1)) (packS (ofS 2)) ∧ S2.l = [] := by
  obtain ⟨a1, a2, a3⟩ := stt_save stt_new (by decide) (ofS 1) rfl z32_bytes chk1 0 (by rw [best_zz]; rfl) (by rw [best_zz]; decide)
  rw [if_pos rfl, if_neg (by decide)] at a2
  have hbp := best_pz (ofS 1) rfl chk1
  obtain ⟨b1, b2, b3⟩ := stt_save a2 (by rw [a3]; decide) (ofS 2) rfl z32_bytes chk2 1 (by rw [hbp]; rfl) (by
    rw [hbp]
    show ¬ (0 ≤ (0 : Int) ∧ (ofS 2).num ≤ (unpS (packS (ofS 1))).num)
    rw [unpS_pack _ rfl chk1]
    decide)
  rw [if_neg (by decide), if_pos rfl] at b2
  exact ⟨_, _, a1, rfl, a2, a3, b1, rfl, b2, b3⟩
theorem exLate {S1 : DS} (h : stt S1 (packS (ofS 1)) s64') : saveE S1 (ofS 1) = 5 ∧ saveS S1 (ofS 1) = S1 := by
  have hbp := best_pz (ofS 1) rfl chk1
  refine stt_late h (ofS 1) chk1 (.inl hbp) ?_
  rw [hbp]
  show (ofS 1).num ≤ (unpS (packS (ofS 1))).num
  rw [unpS_pack _ rfl chk1]
  decide
theorem exLoad1 {S1 : DS} (h : stt S1 (packS (ofS 1)) s64') : loadE S1 = 0 ∧ loadK S1 = 0 ∧ loadS S1 = ofS 1 := by
  have hbp := best_pz (ofS 1) rfl chk1
  obtain ⟨a, b, c⟩ := stt_load h (.inl hbp)
  rw [hbp] at b c
  exact ⟨a, b, c.trans (unpS_pack _ rfl chk1)⟩
theorem exLoad2 {S2 : DS} (h : stt S2 (packS (ofS 1)) (packS (ofS 2))) : loadE S2 = 0 ∧ loadK S2 = 1 ∧ loadS S2 = ofS 2 := by
  have hbp := best_pp (ofS 1) (ofS 2) rfl chk1 rfl chk2 (by decide)
  obtain ⟨a, b, c⟩ := stt_load h (.inr hbp)
  rw [hbp] at b c
  exact ⟨a, b, c.trans (unpS_pack _ rfl chk2)⟩
theorem exNew : loadE (newS 4) = 6 ∧ loadK (newS 4) = 0 ∧ loadS (newS 4) = s0 := by
  have hb := stt_best stt_new
  rw [best_zz] at hb
  have hs := stt_slots stt_new
  have hbl : blankS (newS 4) = true := by decide
  refine ⟨?_, ?_, ?_⟩
  · unfold loadE; rw [hb, if_neg (by rw [hs]; decide), if_neg (by decide), hbl]; rfl
  · unfold loadK; rw [hb, if_neg (by rw [hs]; decide), if_neg (by decide)]
  · unfold loadS; rw [hb, if_neg (by rw [hs]; decide), if_neg (by decide)]
theorem exOne : loadE (newS 1) = 8 ∧ loadK (newS 1) = 0 ∧ loadS (newS 1) = s0 := by
  have hs : slotsE (newS 1) = 8 := by decide
  refine ⟨?_, ?_, ?_⟩
  · unfold loadE; rw [if_pos (by rw [hs]; decide), hs]
  · unfold loadK; rw [if_pos (by rw [hs]; decide)]
  · unfold loadS; rw [if_pos (by rw [hs]; decide)]
theorem okOne : okD (newS 1) := ⟨fun k => ⟨rfl, s64'_b⟩, fun p hp => by simp [newS] at hp, by decide⟩
theorem chkE0 : chkE (ofS 0) = 2 := by decide
set_option maxHeartbeats 8000000 in
set_option maxRecDepth 100000 in
theorem c_awake (w : World) : Calls Try.prog 8 #[] w fun e w' => e = .returned (.bool true) ∧ Below w.heap.size w w' := by
  have HP := Aside0.mk (Hp.start w)
  obtain ⟨S1, S2, e1, e2, e3, e4, e5, e6, e7, e8⟩ := exA
  have HX := Aside0.mk (And.intro (And.intro e1 e2) (And.intro (And.intro e5 e6) (And.intro e3.2.2.2.2.2.1 e7.2.2.2.2.2.1)))
  have HY := Aside0.mk (And.intro (exLate e3) (And.intro (exLoad1 e3) (exLoad2 e7)))
  have HO := Aside0.mk stt_new.2.2.2.2.2.1
  clear e1 e2 e3 e4 e5 e6 e7 e8
  go_enter Try.func8, Try.ntmps8
  go_wp2_with fail
  refine (c_made13 HP.out 4 (by decide) (by decide)).mono ?_; rintro e w1 ⟨g_d, rfl, hpn⟩
  clear HP
  have HP := Aside0.mk hpn
  clear hpn
  go_wp2_with fail
  refine (c_fails HP.out 0 g_d (newS 4) rfl HO.out 6 exNew).mono ?_; rintro e w2 ⟨rfl, hpn⟩
  clear HP
  have HP := Aside0.mk hpn
  clear hpn
  go_wp2_with fail
  refine (c_of 1 _).mono ?_; rintro e w3 ⟨rfl, hb⟩; have HPn := Aside0.mk (HP.out.call hb); clear HP; have HP := HPn; clear HPn; clear hb
  go_wp2_with fail
  have CC := Aside0.mk (c_save HP.out 0 g_d (newS 4) rfl HO.out (ofS 1) rfl)
  rw [HX.out.1.1, HX.out.1.2] at CC
  refine CC.out.mono ?_; rintro e w4 ⟨rfl, hpn⟩
  clear HP CC
  have HP := Aside0.mk hpn
  clear hpn
  go_wp2_with fail
  refine (c_of 1 _).mono ?_; rintro e w5 ⟨rfl, hb⟩; have HPn := Aside0.mk (HP.out.call hb); clear HP; have HP := HPn; clear HPn; clear hb
  go_wp2_with fail
  refine (c_loads HP.out 0 g_d S1 rfl HX.out.2.2.1 (ofS 1) rfl 0 HY.out.2.1).mono ?_; rintro e w6 ⟨rfl, hpn⟩
  clear HP
  have HP := Aside0.mk hpn
  clear hpn
  go_wp2_with fail
  refine (c_of 1 _).mono ?_; rintro e w7 ⟨rfl, hb⟩; have HPn := Aside0.mk (HP.out.call hb); clear HP; have HP := HPn; clear HPn; clear hb
  go_wp2_with fail
  have CC := Aside0.mk (c_save HP.out 0 g_d S1 rfl HX.out.2.2.1 (ofS 1) rfl)
  rw [HY.out.1.1, HY.out.1.2] at CC
  refine CC.out.mono ?_; rintro e w8 ⟨rfl, hpn⟩
  clear HP CC
  have HP := Aside0.mk hpn
  clear hpn
  go_wp2_with fail
  refine (c_of 2 _).mono ?_; rintro e w9 ⟨rfl, hb⟩; have HPn := Aside0.mk (HP.out.call hb); clear HP; have HP := HPn; clear HPn; clear hb
  go_wp2_with fail
  have CC := Aside0.mk (c_save HP.out 0 g_d S1 rfl HX.out.2.2.1 (ofS 2) rfl)
  rw [HX.out.2.1.1, HX.out.2.1.2] at CC
  refine CC.out.mono ?_; rintro e wa ⟨rfl, hpn⟩
  clear HP CC
  have HP := Aside0.mk hpn
  clear hpn
  go_wp2_with fail
  refine (c_of 2 _).mono ?_; rintro e wb ⟨rfl, hb⟩; have HPn := Aside0.mk (HP.out.call hb); clear HP; have HP := HPn; clear HPn; clear hb
  go_wp2_with fail
  refine (c_loads HP.out 0 g_d S2 rfl HX.out.2.2.2 (ofS 2) rfl 1 HY.out.2.2).mono ?_; rintro e wc ⟨rfl, hpn⟩
  clear HP
  have HP := Aside0.mk hpn
  clear hpn
  go_wp2_with fail
  refine (c_of 0 _).mono ?_; rintro e wd ⟨rfl, hb⟩; have HPn := Aside0.mk (HP.out.call hb); clear HP; have HP := HPn; clear HPn; clear hb
  go_wp2_with fail
  have CC := Aside0.mk (fun w => c_check (ofS 0) rfl w)
  rw [chkE0] at CC
  refine (CC.out _).mono ?_; rintro e we ⟨rfl, hb⟩; have HPn := Aside0.mk (HP.out.call hb); clear HP; have HP := HPn; clear HPn; clear hb
  go_wp2_with fail
  go_ret
  exact ⟨rfl, HP.out.below⟩
end Go.Proofs.Ytgflghnbpbiakaa.Su
namespace Go.Proofs.Ytgflghnbpbiakaa.Su
open Go.Proofs.Ytgflghnbpbiakaa.H hiding C_ints cellL cellN ev_copy ev_store_mid frozC i64k run_cut_all run_cut_arr run_cut_to setL set_self
open Go.RowKit Go.Proofs.Ytgflghnbpbiakaa.XH Go.Proofs.YtgflghnbpbiakaaW.PrintWords Go.Proofs.YtgflghnbpbiakaaW.PrintLast Go.Proofs.YtgflghnbpbiakaaW.PrintMore Go.Proofs.YtgflghnbpbiakaaXe Go.Proofs.YtgflghnbpbiakaaXs
set_option linter.unusedVariables false
set_option linter.unusedSimpArgs false
attribute [local go_sem ↓] Go.wp_at_zero Go.wp_at_succ
attribute [local go_sem] valUpon
open Go.Proofs.Ytgflghnbpbiakaa.D hiding c_len c_new c_write
attribute [local go_sem ↓ high] bn23 bn25
attribute [local go_sem high] BN25.z BN25.num BN25.two
def lit11 : List Int := [82, 67, 0, 0, 0, 0, 0, 0, 0, 1, 0]
theorem pack11 : (packS (ofS 1)).take 11 = lit11 := by
  unfold packS
  rw [List.take_append_of_le_length (by rw [fifS_len _ rfl]; decide)]
  decide
theorem exZero {S2 : DS} (h : stt S2 (packS (ofS 1)) (packS (ofS 2))) (hl : S2.l = []) : writeE S2 1 s64' = 0 ∧ okD (writeS S2 1 s64') ∧ loadE (writeS S2 1 s64') = 0 ∧ loadK (writeS S2 1 s64') = 0 ∧ loadS (writeS S2 1 s64') = ofS 1 := by
  obtain ⟨a, b, _⟩ := stt_write h 1 (.inr rfl) s64' rfl s64'_b (by rw [hl]; decide)
  rw [if_neg (by decide), if_pos rfl] at b
  exact ⟨a, b.2.2.2.2.2.1, exLoad1 b⟩
theorem chkE65536 : chkE ⟨1, z32, 65536, 0⟩ = 2 := by decide
theorem same_f (l : List Int) : retconkit_SameBytes.f l l = some true := by simp [retconkit_SameBytes.f]
set_option maxHeartbeats 8000000 in
set_option maxRecDepth 100000 in
theorem c_known (w : World) : Calls Try.prog 5 #[] w fun e w' => e = .returned (.bool true) ∧ Below w.heap.size w w' := by
  have HP := Aside0.mk (Hp.start w)
  obtain ⟨S1, S2, e1, e2, e3, e4, e5, e6, e7, e8⟩ := exA
  have HX := Aside0.mk (And.intro (And.intro e1 e2) (And.intro (And.intro e5 e6) (And.intro e3.2.2.2.2.2.1 e7.2.2.2.2.2.1)))
  have HO := Aside0.mk stt_new.2.2.2.2.2.1
  have HZ := Aside0.mk (exZero e7 e8)
  have HL2 := Aside0.mk (show S2.l.length ≤ 1000000 by rw [e8]; decide)
  clear e1 e2 e3 e4 e5 e6 e7 e8
  obtain ⟨S3, hS3⟩ : ∃ z, writeS S2 1 s64' = z := ⟨_, rfl⟩
  rw [hS3] at HZ
  have HS3 := Aside0.mk hS3
  clear hS3
  go_enter Try.func5, Try.ntmps5
  go_wp2_with fail
  refine (c_made13 HP.out 4 (by decide) (by decide)).mono ?_; rintro e w1 ⟨g_d, rfl, hpn⟩
  clear HP
  have HP := Aside0.mk hpn
  clear hpn
  go_wp2_with fail
  refine (c_made13 HP.out 1 (by decide) (by decide)).mono ?_; rintro e w2 ⟨g_1, rfl, hpn⟩
  clear HP
  have HP := Aside0.mk hpn
  clear hpn
  go_wp2_with fail
  refine (c_of 1 _).mono ?_; rintro e w3 ⟨rfl, hb⟩; have HPn := Aside0.mk (HP.out.call hb); clear HP; have HP := HPn; clear HPn; clear hb
  go_wp2_with fail
  refine (c_spack8 (ofS 1) rfl chk1 _).mono ?_; rintro e w4 ⟨g8, l8, rfl, ht1, ht2, ht3, hge, hg, hb⟩
  have HPn := Aside0.mk (HP.out.newB hb hg hge)
  clear HP hb hg hge
  have HP := HPn
  clear HPn
  have h11 := pack11
  have hXl := packS_len (ofS 1) rfl
  obtain ⟨X, hX⟩ : ∃ z, packS (ofS 1) = z := ⟨_, rfl⟩
  rw [hX] at ht1 ht2 h11 hXl
  rw [hX]
  have HP8 := Aside0.mk (And.intro ht1 (And.intro ht2 ht3))
  have hcut : ∀ w : World, (Instr.slice 26 (.slice (some ⟨g8, 0, none⟩) X.length l8.length) none (some (.int .i64 11)) none).run Try.prog w = .ok (.slice (some ⟨g8, 0, none⟩) 11 l8.length) w := fun w => D.to8 (some ⟨g8, 0, none⟩) l8.length X 11 (by omega) ht2 11 rfl w
  have d64 : ((X.length : Int) != 64) = false := bne_eq_false_iff_eq.2 (by omega)
  have H11 := Aside0.mk (fun (w : World) (hg : w.heap[g8]? = some (.cells (u8s l8).toArray 5 (0, 0))) => (show Kd.C (Kd.int .u8) w (some ⟨g8, 0, none⟩) 11 lit11 from C_tk (C_preU hg ht3 ht1 ht2) 11 (by omega) h11))
  have HXL := Aside0.mk (show 11 ≤ l8.length by omega)
  clear hX h11 hXl ht1 ht2 ht3
  have hmk : ∀ w : World, (Instr.makeSlice 26 (.int .i64 64) (.int .i64 64)).run Try.prog w = .ok (.slice (some ⟨w.heap.size, 0, none⟩) 64 64) (w.alloc (.cells (u8s s64').toArray 5)) := fun w => run_make8 64 (by decide) w
  go_wp2_with fail
  refine (c_of 1 _).mono ?_; rintro e w5 ⟨rfl, hb⟩; have HPn := Aside0.mk (HP.out.call hb); clear HP; have HP := HPn; clear HPn; clear hb
  go_wp2_with fail
  have CC := Aside0.mk (c_save HP.out 2 g_d (newS 4) rfl HO.out (ofS 1) rfl)
  rw [HX.out.1.1, HX.out.1.2] at CC
  refine CC.out.mono ?_; rintro e w6 ⟨rfl, hpn⟩
  clear HP CC
  have HP := Aside0.mk hpn
  clear hpn
  go_wp2_with fail
  refine (c_of 2 _).mono ?_; rintro e w7 ⟨rfl, hb⟩; have HPn := Aside0.mk (HP.out.call hb); clear HP; have HP := HPn; clear HPn; clear hb
  go_wp2_with fail
  have CC := Aside0.mk (c_save HP.out 2 g_d S1 rfl HX.out.2.2.1 (ofS 2) rfl)
  rw [HX.out.2.1.1, HX.out.2.1.2] at CC
  refine CC.out.mono ?_; rintro e w8 ⟨rfl, hpn⟩
  clear HP CC
  have HP := Aside0.mk hpn
  clear hpn
  go_wp2_with (first | ((with_reducible refine gate_dst (N := 39) rfl ?_); refine ev_make rfl 26 _ _ rfl rfl rfl (hmk w8) ?_))
  have HPn := Aside0.mk (HP.out.alloc (.cells (u8s s64').toArray 5 (0, 0)))
  clear HP
  have HP := HPn
  clear HPn
  have CC := Aside0.mk (D.c_write HP.out 3 g_d S2 rfl 1 (some ⟨w8.heap.size, 0, none⟩) 64 s64' (by decide) (fun w' Y h => C_tk (C_blkW (k := .u8) (l := s64') (h.blk 0 rfl) (by decide)) 64 (by decide) rfl) HL2.out)
  rw [HZ.out.1, HS3.out] at CC
  refine CC.out.mono ?_; rintro e w9 ⟨rfl, hpn⟩
  clear HP CC
  have HP := Aside0.mk (Hp.drop1 hpn)
  clear hpn
  go_wp2_with fail
  refine (c_awake _).mono ?_; rintro e wa ⟨rfl, hb⟩; have HPn := Aside0.mk (HP.out.call hb); clear HP; have HP := HPn; clear HPn; clear hb
  go_wp2_with fail
  refine (c_fails HP.out 1 g_1 (newS 1) rfl okOne 8 exOne).mono ?_; rintro e wb ⟨rfl, hpn⟩
  clear HP
  have HP := Aside0.mk hpn
  clear hpn
  go_wp2_with fail
  have CC := Aside0.mk (fun w => c_check ⟨1, z32, 65536, 0⟩ rfl w)
  rw [chkE65536] at CC
  refine (CC.out _).mono ?_; rintro e wc ⟨rfl, hb⟩; have HPn := Aside0.mk (HP.out.call hb); clear HP; have HP := HPn; clear HPn; clear hb
  go_wp2_with fail
  have HPn := Aside0.mk (show Hp w (wc.alloc (.cells #[.int .u8 82, .int .u8 67, .int .u8 0, .int .u8 0, .int .u8 0, .int .u8 0, .int .u8 0, .int .u8 0, .int .u8 0, .int .u8 1, .int .u8 0] 5)) _ from HP.out.lit 5 (d := Kd.int .u8) (xs := lit11) (inner := lit11.map (Value.int .u8)) (reps_ints .u8 _ _ lit11) (by decide))
  clear HP
  have HP := HPn
  clear HPn
  refine (retconkit_SameBytes.calls (some ⟨g8, 0, none⟩) l8.length lit11 (some ⟨wc.heap.size, 0, none⟩) 11 lit11 true _ (H11.out _ (HP.out.blk 1 rfl)) HXL.out (Kd.R_reads' (HP.out.row 0 rfl)).2.2 (Kd.R_reads' (HP.out.row 0 rfl)).2.1 (same_f _)).mono ?_; rintro e w_ ⟨rfl, n_, rfl⟩; have HPn := Aside0.mk ((HP.out.drewN n_).drop1); clear HP; have HP := HPn; clear HPn
  go_wp2_with fail
  refine (c_of 1 _).mono ?_; rintro e we ⟨rfl, hb⟩; have HPn := Aside0.mk (HP.out.call hb); clear HP; have HP := HPn; clear HPn; clear hb
  go_wp2_with fail
  refine (c_loads HP.out 2 g_d S3 rfl HZ.out.2.1 (ofS 1) rfl 0 HZ.out.2.2).mono ?_; rintro e wf ⟨rfl, hpn⟩
  clear HP
  have HP := Aside0.mk hpn
  clear hpn
  go_wp2_with fail
  go_ret
  exact ⟨rfl, HP.out.below⟩
set_option maxHeartbeats 8000000 in
set_option maxRecDepth 100000 in
theorem n_slots (q : Option Addr) (w : World) (hN : NoD q w) : Calls Try.prog 46 #[.pointer q] w fun e w' => e = .returned (.tuple #[.slice none 0 0, .bool false, .int .i64 1]) ∧ w' = w := by
  have HN := Aside0.mk (n_read q w hN 0)
  clear hN
  go_enter Try.func46, Try.ntmps46
  go_wp2_with fail
  refine HN.out.mono ?_; rintro e w_ ⟨rfl, rfl⟩
  go_wp2_with fail
  refine bodyPost_ret (results_three rfl _ _ rfl rfl rfl) rfl ?_
  exact ⟨rfl, rfl⟩
set_option maxHeartbeats 8000000 in
set_option maxRecDepth 100000 in
theorem n_load (q : Option Addr) (w : World) (hN : NoD q w) : Calls Try.prog 19 #[.pointer q] w fun e w' => e = .returned (.tuple #[.agg (c25 s0).toArray, .int .i64 0, .int .i64 1]) ∧ Below w.heap.size w w' := by
  have HN := Aside0.mk (fun w' (hb : Below w.heap.size w w') => n_slots q w' (hN.below hb))
  have HP := Aside0.mk (Hp.start w)
  clear hN
  go_enter Try.func19, Try.ntmps19
  go_wp2_with (first | ((with_reducible refine gate_dst (N := 2) rfl ?_); refine ev_alloc rfl 25 rfl (.agg (c25 s0).toArray) (by kernel_rfl) ?_; intro g_o w1 hge hg hb; have HPn := Aside0.mk (HP.out.newB hb hg hge); clear HP; have HP := HPn; clear HPn; clear hge hg hb))
  refine (HN.out _ HP.out.below).mono ?_; rintro e w_ ⟨rfl, rfl⟩
  go_wp2_with (first | ((with_reducible refine gate_store (t := 25) (p := 2) rfl ?_); refine ev_store rfl 25 (.tmp 2) (.tmp 17) rfl rfl _ rfl (cells := (c25 s0).toArray) rfl (HP.out.blk 0 rfl) (by rw [List.size_toArray, c25_len s0 rfl]; kernel_rfl) (by rfl) (c25_one s0) ?_; intro w3 hg hgr; have HPn := Aside0.mk (HP.out.setB 0 rfl hgr hg); clear HP; have HP := HPn; clear HPn; clear hg hgr))
  refine bodyPost_ret (resCTT rfl _ _ rfl (HP.out.blk 0 rfl) Try.underlying25 rfl (by rw [List.size_toArray, c25_len s0 rfl]; kernel_rfl) rfl rfl) rfl ?_
  exact ⟨rfl, HP.out.below⟩
set_option maxHeartbeats 8000000 in
set_option maxRecDepth 100000 in
theorem n_save (q : Option Addr) (w : World) (hN : NoD q w) (cs : List Value) (hl : cs.length = 35) : Calls Try.prog 20 #[.pointer q, .agg cs.toArray] w fun e w' => e = .returned (.int .i64 1) ∧ Below w.heap.size w w' := by
  have HN := Aside0.mk (fun w' (hb : Below w.heap.size w w') => n_read q w' (hN.below hb) 0)
  have HP := Aside0.mk (Hp.start w)
  have HL := Aside0.mk hl
  clear hN hl
  go_enter Try.func20, Try.ntmps20
  go_wp2_with (first | ((with_reducible refine gate_dst (N := 3) rfl ?_); refine ev_box rfl 25 (.tmp 1) rfl (cs.toArray) rfl ?_; intro g_s w1 hge hg hb; have HPn := Aside0.mk (HP.out.newB hb hg hge); clear HP; have HP := HPn; clear HPn; clear hge hg hb))
  refine (HN.out _ HP.out.below).mono ?_; rintro e w_ ⟨rfl, rfl⟩
  go_wp2_with fail
  go_ret
  exact ⟨rfl, HP.out.below⟩
set_option maxHeartbeats 8000000 in
set_option maxRecDepth 100000 in
theorem superNone_law (cs : List Value) (hl : cs.length = 35) (w : World) : Calls Try.prog 4 #[.agg cs.toArray] w fun e w' => e = .returned (.bool true) ∧ Below w.heap.size w w' := by
  have HP := Aside0.mk (Hp.start w)
  have HL := Aside0.mk hl
  have heq := eq25_run s0 s0 rfl rfl rfl
  have HSL := Aside0.mk (c25_len s0 rfl)
  clear hl
  go_enter Try.func4, Try.ntmps4
  go_wp2_with (first | ((with_reducible refine gate_dst (N := 1) rfl ?_); refine ev_box rfl 25 (.tmp 0) rfl (cs.toArray) rfl ?_; intro g_s w1 hge hg hb; have HPn := Aside0.mk (HP.out.newB hb hg hge); clear HP; have HP := HPn; clear HPn; clear hge hg hb))
  have HPn := Aside0.mk ((HP.out.alloc (.cells zD.toArray 44 (0, 0))).alloc (.cells #[.pointer none, .pointer (some ⟨w1.heap.size, 0, none⟩)] 38 (0, 0)))
  have hs1 : (w1.alloc (.cells zD.toArray 44 (0, 0))).heap.size = w1.heap.size + 1 := by simp
  rw [hs1] at HPn
  obtain ⟨gz, hgz⟩ : ∃ z, w1.heap.size = z := ⟨_, rfl⟩
  rw [hgz] at HPn ⊢
  obtain ⟨gl, hgl⟩ : ∃ z, gz + 1 = z := ⟨_, rfl⟩
  rw [hgl] at HPn ⊢
  have HP1 := Aside0.mk HPn.out
  clear HP HPn hs1
  go_loopg [5, 6, 7, 8] 2 (fun kq v5 v6 v7 v8 w' => ∃ i : Nat, v5 = .int .i64 (i : Int) ∧ Aside0 (kq + i = 2) ∧ Aside0 (Hp w w' [.blk gl (.cells #[.pointer none, .pointer (some ⟨gz, 0, none⟩)] 38 (0, 0)), .blk gz (.cells zD.toArray 44 (0, 0)), .blk g_s (.cells cs.toArray 25 (0, 0))]))
  case atStart => exact ⟨0, rfl, ⟨rfl⟩, HP1⟩
  clear HP1 hgz hgl
  obtain ⟨i, rfl, HK, HP⟩ := hrel
  have hk := HK.out
  match i, hk with
  | 0, hk =>
    have HN := Aside0.mk (nod_nil wr)
    clear hk
    have hx : wr.cell? ⟨gl, 0, none⟩ = some (.pointer none) := blk_cell (HP.out.blk 0 rfl) 0
    go_wp2_with fail
    refine (n_load _ _ HN.out).mono ?_; rintro e wx ⟨rfl, hb⟩
    have HPn := Aside0.mk (HP.out.call hb)
    have HNn := Aside0.mk (HN.out.below hb)
    clear HP HN hb hx
    have HP := HPn
    have HN := HNn
    clear HPn HNn
    go_wp2_with (first | ((with_reducible refine gate_dst (N := 6) rfl ?_); refine ev_alloc rfl 25 rfl (.agg (c25 s0).toArray) (by kernel_rfl) ?_; intro g_o wy hge hg hb; have HPn := Aside0.mk (HP.out.newB hb hg hge); clear HP; have HP := HPn; clear HPn; clear hge hg hb) | ((with_reducible refine gate_store (t := 25) (p := 6) rfl ?_); refine ev_store rfl 25 (.tmp 6) (.tmp 23) rfl rfl _ rfl (cells := (c25 s0).toArray) rfl (HP.out.blk 0 rfl) (by rw [List.size_toArray, HSL.out]; kernel_rfl) (by rfl) (c25_one _) ?_; intro wz hg hgr; have HPn := Aside0.mk (HP.out.setB 0 rfl hgr hg); clear HP; have HP := HPn; clear HPn; clear hg hgr))
    refine held_named (S := (fun w' => w'.rangeAt g_o 0 (c25 s0) ∧ w'.rangeAt g_s 0 cs ∧ w'.cell? ⟨gl, 0, none⟩ = some (.pointer none))) (by kernel_rfl) (fun wd0 hwd0 => ?_)
    have HPn := Aside0.mk (HP.out.drewN 1)
    rw [← World.drew_is_drewN, hwd0] at HPn
    clear HP hwd0
    have HP := HPn
    clear HPn
    refine ⟨by (try dsimp only); exact ⟨rangeB (HP.out.blk 0 rfl), rangeB (HP.out.blk 3 rfl), blk_cell (HP.out.blk 1 rfl) 0⟩, fun hHeld => ?_⟩
    refine wpAnyH_take (i := 0) (oi := ({ dst := (some 26), op := (Op.load 25 (Operand.tmp 6)), type := 25, pos := "law.go:85", after := #[], guard := none } : Oper)) (v := _) rfl (by kernel_rfl) (by kernel_rfl) (by kernel_rfl) (fun _ _ _ h => h) (yieldsIf_load_mid (by rfl) _ _ rfl _ _ rfl _ _ (fun w h => h.1) Try.underlying25 rfl (by rw [HSL.out]; kernel_rfl)) hHeld ?_
    try simp only [Act.put, List.setIfInBounds_toArray, List.set_cons_zero, List.set_cons_succ]
    refine wpAnyH_take (i := 1) (oi := ({ dst := (some 27), op := (Op.build 25 #[]), type := 25, pos := "law.go:85", after := #[], guard := none } : Oper)) (v := ?_) rfl (by kernel_rfl) (by kernel_rfl) (by kernel_rfl) (fun _ _ _ h => h) (Or.inl ⟨by rfl, ?_⟩) hHeld ?_
    rotate_left
    · intro w_ hSw; (try dsimp only at hSw); go_simp; try (with_reducible rfl)
    try simp only [Act.put, List.setIfInBounds_toArray, List.set_cons_zero, List.set_cons_succ]
    refine wpAnyH_take (i := 2) (oi := ({ dst := (some 28), op := (Op.binOp BinOp.neq 25 (Operand.tmp 26) (Operand.tmp 27) 25), type := 4, pos := "law.go:85", after := #[{ on := 0, ground := Ground.data }, { on := 1, ground := Ground.data }], guard := none } : Oper)) (v := ?_) rfl (by kernel_rfl) (by kernel_rfl) (by kernel_rfl) (fun _ _ _ h => h) (Or.inl ⟨by rfl, ?_⟩) hHeld ?_
    rotate_left
    · intro w_ hSw; (try dsimp only at hSw); go_simp; try (with_reducible rfl)
    try simp only [Act.put, List.setIfInBounds_toArray, List.set_cons_zero, List.set_cons_succ]
    refine wpAnyH_take (i := 3) (oi := ({ dst := (some 29), op := (Op.move (Operand.tmp 28)), type := 4, pos := "law.go:85", after := #[{ on := 2, ground := Ground.data }], guard := none } : Oper)) (v := ?_) rfl (by kernel_rfl) (by kernel_rfl) (by kernel_rfl) (fun _ _ _ h => h) (Or.inl ⟨by rfl, ?_⟩) hHeld ?_
    rotate_left
    · intro w_ hSw; (try dsimp only at hSw); go_simp; try (with_reducible rfl)
    try simp only [Act.put, List.setIfInBounds_toArray, List.set_cons_zero, List.set_cons_succ]
    refine wpAnyH_take (i := 4) (oi := ({ dst := (some 30), op := (Op.move (Operand.tmp 7)), type := 3, pos := "law.go:85", after := #[{ on := 3, ground := Ground.guard }], guard := (some (3, false)) } : Oper)) (v := ?_) rfl (by kernel_rfl) (by kernel_rfl) (by kernel_rfl) (fun _ _ _ h => h) (Or.inl ⟨by rfl, ?_⟩) hHeld ?_
    rotate_left
    · intro w_ hSw; (try dsimp only at hSw); go_simp; try (with_reducible rfl)
    try simp only [Act.put, List.setIfInBounds_toArray, List.set_cons_zero, List.set_cons_succ]
    refine wpAnyH_take (i := 5) (oi := ({ dst := (some 31), op := (Op.binOp BinOp.neq 3 (Operand.tmp 30) (Operand.const (Value.int IntKind.i64 0)) 3), type := 4, pos := "law.go:85", after := #[{ on := 4, ground := Ground.data }, { on := 3, ground := Ground.guard }], guard := (some (3, false)) } : Oper)) (v := ?_) rfl (by kernel_rfl) (by kernel_rfl) (by kernel_rfl) (fun _ _ _ h => h) (Or.inl ⟨by rfl, ?_⟩) hHeld ?_
    rotate_left
    · intro w_ hSw; (try dsimp only at hSw); go_simp; try (with_reducible rfl)
    try simp only [Act.put, List.setIfInBounds_toArray, List.set_cons_zero, List.set_cons_succ]
    refine wpAnyH_take (i := 6) (oi := ({ dst := (some 32), op := (Op.pick (Operand.tmp 29) (Operand.const (Value.bool true)) (Operand.tmp 31)), type := 4, pos := "law.go:85", after := #[{ on := 3, ground := Ground.data }, { on := 5, ground := Ground.data }], guard := none } : Oper)) (v := ?_) rfl (by kernel_rfl) (by kernel_rfl) (by kernel_rfl) (fun _ _ _ h => h) (Or.inl ⟨by rfl, ?_⟩) hHeld ?_
    rotate_left
    · intro w_ hSw; (try dsimp only at hSw); go_simp; try (with_reducible rfl)
    try simp only [Act.put, List.setIfInBounds_toArray, List.set_cons_zero, List.set_cons_succ]
    refine wpAnyH_take (i := 7) (oi := ({ dst := (some 33), op := (Op.move (Operand.tmp 32)), type := 4, pos := "law.go:85", after := #[{ on := 6, ground := Ground.data }, { on := 3, ground := Ground.chain }], guard := none } : Oper)) (v := ?_) rfl (by kernel_rfl) (by kernel_rfl) (by kernel_rfl) (fun _ _ _ h => h) (Or.inl ⟨by rfl, ?_⟩) hHeld ?_
    rotate_left
    · intro w_ hSw; (try dsimp only at hSw); go_simp; try (with_reducible rfl)
    try simp only [Act.put, List.setIfInBounds_toArray, List.set_cons_zero, List.set_cons_succ]
    refine wpAnyH_take (i := 8) (oi := ({ dst := (some 34), op := (Op.move (Operand.tmp 8)), type := 28, pos := "law.go:85", after := #[{ on := 7, ground := Ground.guard }], guard := (some (7, false)) } : Oper)) (v := ?_) rfl (by kernel_rfl) (by kernel_rfl) (by kernel_rfl) (fun _ _ _ h => h) (Or.inl ⟨by rfl, ?_⟩) hHeld ?_
    rotate_left
    · intro w_ hSw; (try dsimp only at hSw); go_simp; try (with_reducible rfl)
    try simp only [Act.put, List.setIfInBounds_toArray, List.set_cons_zero, List.set_cons_succ]
    refine wpAnyH_take (i := 9) (oi := ({ dst := (some 35), op := (Op.binOp BinOp.neq 28 (Operand.tmp 34) (Operand.const (Value.int IntKind.i64 1)) 28), type := 4, pos := "law.go:85", after := #[{ on := 8, ground := Ground.data }, { on := 7, ground := Ground.guard }], guard := (some (7, false)) } : Oper)) (v := ?_) rfl (by kernel_rfl) (by kernel_rfl) (by kernel_rfl) (fun _ _ _ h => h) (Or.inl ⟨by rfl, ?_⟩) hHeld ?_
    rotate_left
    · intro w_ hSw; (try dsimp only at hSw); go_simp; try (with_reducible rfl)
    try simp only [Act.put, List.setIfInBounds_toArray, List.set_cons_zero, List.set_cons_succ]
    refine wpAnyH_take (i := 10) (oi := ({ dst := (some 36), op := (Op.pick (Operand.tmp 33) (Operand.const (Value.bool true)) (Operand.tmp 35)), type := 4, pos := "law.go:85", after := #[{ on := 7, ground := Ground.data }, { on := 9, ground := Ground.data }], guard := none } : Oper)) (v := ?_) rfl (by kernel_rfl) (by kernel_rfl) (by kernel_rfl) (fun _ _ _ h => h) (Or.inl ⟨by rfl, ?_⟩) hHeld ?_
    rotate_left
    · intro w_ hSw; (try dsimp only at hSw); go_simp; try (with_reducible rfl)
    try simp only [Act.put, List.setIfInBounds_toArray, List.set_cons_zero, List.set_cons_succ]
    refine wpAnyH_take (i := 11) (oi := ({ dst := (some 37), op := (Op.move (Operand.tmp 36)), type := 4, pos := "law.go:85", after := #[{ on := 10, ground := Ground.data }, { on := 7, ground := Ground.chain }], guard := none } : Oper)) (v := ?_) rfl (by kernel_rfl) (by kernel_rfl) (by kernel_rfl) (fun _ _ _ h => h) (Or.inl ⟨by rfl, ?_⟩) hHeld ?_
    rotate_left
    · intro w_ hSw; (try dsimp only at hSw); go_simp; try (with_reducible rfl)
    try simp only [Act.put, List.setIfInBounds_toArray, List.set_cons_zero, List.set_cons_succ]
    refine wpAnyH_take (i := 12) (oi := ({ dst := (some 38), op := (Op.move (Operand.tmp 4)), type := 45, pos := "law.go:85", after := #[{ on := 11, ground := Ground.guard }], guard := (some (11, false)) } : Oper)) (v := ?_) rfl (by kernel_rfl) (by kernel_rfl) (by kernel_rfl) (fun _ _ _ h => h) (Or.inl ⟨by rfl, ?_⟩) hHeld ?_
    rotate_left
    · intro w_ hSw; (try dsimp only at hSw); go_simp; try (with_reducible rfl)
    try simp only [Act.put, List.setIfInBounds_toArray, List.set_cons_zero, List.set_cons_succ]
    refine wpAnyH_take (i := 13) (oi := ({ dst := (some 39), op := (Op.move (Operand.tmp 5)), type := 3, pos := "law.go:85", after := #[{ on := 11, ground := Ground.guard }], guard := (some (11, false)) } : Oper)) (v := ?_) rfl (by kernel_rfl) (by kernel_rfl) (by kernel_rfl) (fun _ _ _ h => h) (Or.inl ⟨by rfl, ?_⟩) hHeld ?_
    rotate_left
    · intro w_ hSw; (try dsimp only at hSw); go_simp; try (with_reducible rfl)
    try simp only [Act.put, List.setIfInBounds_toArray, List.set_cons_zero, List.set_cons_succ]
    refine wpAnyH_take (i := 14) (oi := ({ dst := (some 40), op := (Op.indexAddr 45 (Operand.tmp 38) (Operand.tmp 39)), type := 0, pos := "law.go:85", after := #[{ on := 12, ground := Ground.data }, { on := 13, ground := Ground.data }, { on := 11, ground := Ground.guard }], guard := (some (11, false)) } : Oper)) (v := ?_) rfl (by kernel_rfl) (by kernel_rfl) (by kernel_rfl) (fun _ _ _ h => h) (Or.inl ⟨by rfl, ?_⟩) hHeld ?_
    rotate_left
    · intro w_ hSw; (try dsimp only at hSw); go_simp; try (with_reducible rfl)
    try simp only [Act.put, List.setIfInBounds_toArray, List.set_cons_zero, List.set_cons_succ]
    refine wpAnyH_take (i := 15) (oi := ({ dst := (some 41), op := (Op.load 38 (Operand.tmp 40)), type := 38, pos := "law.go:85", after := #[{ on := 14, ground := Ground.data }, { on := 11, ground := Ground.guard }], guard := (some (11, false)) } : Oper)) (v := ?_) rfl (by kernel_rfl) (by kernel_rfl) (by kernel_rfl) (fun _ _ _ h => h) (Or.inl ⟨by rfl, ?_⟩) hHeld ?_
    rotate_left
    · intro w_ hSw; (try dsimp only at hSw); go_simp; try (with_reducible rfl)
    try simp only [Act.put, List.setIfInBounds_toArray, List.set_cons_zero, List.set_cons_succ]
    refine wpAnyH_take (i := 16) (oi := ({ dst := (some 42), op := (Op.load 25 (Operand.tmp 1)), type := 25, pos := "law.go:85", after := #[{ on := 11, ground := Ground.guard }], guard := (some (11, false)) } : Oper)) (v := _) rfl (by kernel_rfl) (by kernel_rfl) (by kernel_rfl) (fun _ _ _ h => h) (yieldsIf_load_mid (by rfl) _ _ rfl _ _ rfl _ _ (fun w h => h.2.1) Try.underlying25 rfl (by rw [HL.out]; kernel_rfl)) hHeld ?_
    try simp only [Act.put, List.setIfInBounds_toArray, List.set_cons_zero, List.set_cons_succ]
    refine wpAnyH_ready (rs := [17]) (by kernel_rfl) (by simp) ?_
    refine AllReadyH.cons (o := ({ dst := (some 43), op := (Op.call { callee := (Callee.value (Operand.func 20)), args := #[(Operand.tmp 41), (Operand.tmp 42)], argTypes := #[38, 25] }), type := 28, pos := "law.go:85", after := #[{ on := 15, ground := Ground.data }, { on := 16, ground := Ground.data }, { on := 11, ground := Ground.chain }, { on := 11, ground := Ground.guard }], guard := (some (11, false)) } : Oper)) rfl (fun K hK => ?_) AllReadyH.nil
    go_simp
    refine (n_save _ _ (nod_nil _) cs HL.out).mono ?_; rintro e ws ⟨rfl, hb⟩
    have HPn := Aside0.mk (HP.out.call hb); clear HP; have HP := HPn; clear HPn
    clear hb
    go_wp2_with fail
    clear hHeld
    refine hK.out _ _ ?_ (fun hHeld => ?_)
    · (try dsimp only); exact ⟨rangeB (HP.out.blk 0 rfl), rangeB (HP.out.blk 3 rfl), blk_cell (HP.out.blk 1 rfl) 0⟩
    clear hK K
    try simp only [Act.put, List.setIfInBounds_toArray, List.set_cons_zero, List.set_cons_succ]
    refine wpAnyH_take (i := 18) (oi := ({ dst := (some 44), op := (Op.binOp BinOp.neq 28 (Operand.tmp 43) (Operand.const (Value.int IntKind.i64 1)) 28), type := 4, pos := "law.go:85", after := #[{ on := 17, ground := Ground.data }, { on := 11, ground := Ground.guard }], guard := (some (11, false)) } : Oper)) (v := ?_) rfl (by kernel_rfl) (by kernel_rfl) (by kernel_rfl) (fun _ _ _ h => h) (Or.inl ⟨by rfl, ?_⟩) hHeld ?_
    rotate_left
    · intro w_ hSw; (try dsimp only at hSw); go_simp; try (with_reducible rfl)
    try simp only [Act.put, List.setIfInBounds_toArray, List.set_cons_zero, List.set_cons_succ]
    refine wpAnyH_take (i := 19) (oi := ({ dst := (some 45), op := (Op.pick (Operand.tmp 37) (Operand.const (Value.bool true)) (Operand.tmp 44)), type := 4, pos := "law.go:85", after := #[{ on := 11, ground := Ground.data }, { on := 18, ground := Ground.data }], guard := none } : Oper)) (v := ?_) rfl (by kernel_rfl) (by kernel_rfl) (by kernel_rfl) (fun _ _ _ h => h) (Or.inl ⟨by rfl, ?_⟩) hHeld ?_
    rotate_left
    · intro w_ hSw; (try dsimp only at hSw); go_simp; try (with_reducible rfl)
    try simp only [Act.put, List.setIfInBounds_toArray, List.set_cons_zero, List.set_cons_succ]
    refine wpAnyH_done (by kernel_rfl) ?_ _
    clear hHeld
    have HPd := Aside0.mk HP.out.drop1
    clear HP
    have HP := HPd
    clear HPd
    go_wp2_with fail
    go_roundg (gk - 1)
    case measure => have := HK.out; omega
    case rel => exact ⟨1, by first | rfl | simp, ⟨by have := HK.out; omega⟩, HP⟩
  | 1, hk =>
    have HN := Aside0.mk (nod_zero gz wr (HP.out.blk 1 rfl))
    clear hk
    have hx : wr.cell? ⟨gl, 1, none⟩ = some (.pointer (some ⟨gz, 0, none⟩)) := blk_cell (HP.out.blk 0 rfl) 1
    go_wp2_with fail
    refine (n_load _ _ HN.out).mono ?_; rintro e wx ⟨rfl, hb⟩
    have HPn := Aside0.mk (HP.out.call hb)
    have HNn := Aside0.mk (HN.out.below hb)
    clear HP HN hb hx
    have HP := HPn
    have HN := HNn
    clear HPn HNn
    go_wp2_with (first | ((with_reducible refine gate_dst (N := 6) rfl ?_); refine ev_alloc rfl 25 rfl (.agg (c25 s0).toArray) (by kernel_rfl) ?_; intro g_o wy hge hg hb; have HPn := Aside0.mk (HP.out.newB hb hg hge); clear HP; have HP := HPn; clear HPn; clear hge hg hb) | ((with_reducible refine gate_store (t := 25) (p := 6) rfl ?_); refine ev_store rfl 25 (.tmp 6) (.tmp 23) rfl rfl _ rfl (cells := (c25 s0).toArray) rfl (HP.out.blk 0 rfl) (by rw [List.size_toArray, HSL.out]; kernel_rfl) (by rfl) (c25_one _) ?_; intro wz hg hgr; have HPn := Aside0.mk (HP.out.setB 0 rfl hgr hg); clear HP; have HP := HPn; clear HPn; clear hg hgr))
    refine held_named (S := (fun w' => w'.rangeAt g_o 0 (c25 s0) ∧ w'.rangeAt g_s 0 cs ∧ w'.cell? ⟨gl, 1, none⟩ = some (.pointer (some ⟨gz, 0, none⟩)))) (by kernel_rfl) (fun wd0 hwd0 => ?_)
    have HPn := Aside0.mk (HP.out.drewN 1)
    rw [← World.drew_is_drewN, hwd0] at HPn
    clear HP hwd0
    have HP := HPn
    clear HPn
    refine ⟨by (try dsimp only); exact ⟨rangeB (HP.out.blk 0 rfl), rangeB (HP.out.blk 3 rfl), blk_cell (HP.out.blk 1 rfl) 1⟩, fun hHeld => ?_⟩
    refine wpAnyH_take (i := 0) (oi := ({ dst := (some 26), op := (Op.load 25 (Operand.tmp 6)), type := 25, pos := "law.go:85", after := #[], guard := none } : Oper)) (v := _) rfl (by kernel_rfl) (by kernel_rfl) (by kernel_rfl) (fun _ _ _ h => h) (yieldsIf_load_mid (by rfl) _ _ rfl _ _ rfl _ _ (fun w h => h.1) Try.underlying25 rfl (by rw [HSL.out]; kernel_rfl)) hHeld ?_
    try simp only [Act.put, List.setIfInBounds_toArray, List.set_cons_zero, List.set_cons_succ]
    refine wpAnyH_take (i := 1) (oi := ({ dst := (some 27), op := (Op.build 25 #[]), type := 25, pos := "law.go:85", after := #[], guard := none } : Oper)) (v := ?_) rfl (by kernel_rfl) (by kernel_rfl) (by kernel_rfl) (fun _ _ _ h => h) (Or.inl ⟨by rfl, ?_⟩) hHeld ?_
    rotate_left
    · intro w_ hSw; (try dsimp only at hSw); go_simp; try (with_reducible rfl)
    try simp only [Act.put, List.setIfInBounds_toArray, List.set_cons_zero, List.set_cons_succ]
    refine wpAnyH_take (i := 2) (oi := ({ dst := (some 28), op := (Op.binOp BinOp.neq 25 (Operand.tmp 26) (Operand.tmp 27) 25), type := 4, pos := "law.go:85", after := #[{ on := 0, ground := Ground.data }, { on := 1, ground := Ground.data }], guard := none } : Oper)) (v := ?_) rfl (by kernel_rfl) (by kernel_rfl) (by kernel_rfl) (fun _ _ _ h => h) (Or.inl ⟨by rfl, ?_⟩) hHeld ?_
    rotate_left
    · intro w_ hSw; (try dsimp only at hSw); go_simp; try (with_reducible rfl)
    try simp only [Act.put, List.setIfInBounds_toArray, List.set_cons_zero, List.set_cons_succ]
    refine wpAnyH_take (i := 3) (oi := ({ dst := (some 29), op := (Op.move (Operand.tmp 28)), type := 4, pos := "law.go:85", after := #[{ on := 2, ground := Ground.data }], guard := none } : Oper)) (v := ?_) rfl (by kernel_rfl) (by kernel_rfl) (by kernel_rfl) (fun _ _ _ h => h) (Or.inl ⟨by rfl, ?_⟩) hHeld ?_
    rotate_left
    · intro w_ hSw; (try dsimp only at hSw); go_simp; try (with_reducible rfl)
    try simp only [Act.put, List.setIfInBounds_toArray, List.set_cons_zero, List.set_cons_succ]
    refine wpAnyH_take (i := 4) (oi := ({ dst := (some 30), op := (Op.move (Operand.tmp 7)), type := 3, pos := "law.go:85", after := #[{ on := 3, ground := Ground.guard }], guard := (some (3, false)) } : Oper)) (v := ?_) rfl (by kernel_rfl) (by kernel_rfl) (by kernel_rfl) (fun _ _ _ h => h) (Or.inl ⟨by rfl, ?_⟩) hHeld ?_
    rotate_left
    · intro w_ hSw; (try dsimp only at hSw); go_simp; try (with_reducible rfl)
    try simp only [Act.put, List.setIfInBounds_toArray, List.set_cons_zero, List.set_cons_succ]
    refine wpAnyH_take (i := 5) (oi := ({ dst := (some 31), op := (Op.binOp BinOp.neq 3 (Operand.tmp 30) (Operand.const (Value.int IntKind.i64 0)) 3), type := 4, pos := "law.go:85", after := #[{ on := 4, ground := Ground.data }, { on := 3, ground := Ground.guard }], guard := (some (3, false)) } : Oper)) (v := ?_) rfl (by kernel_rfl) (by kernel_rfl) (by kernel_rfl) (fun _ _ _ h => h) (Or.inl ⟨by rfl, ?_⟩) hHeld ?_
    rotate_left
    · intro w_ hSw; (try dsimp only at hSw); go_simp; try (with_reducible rfl)
    try simp only [Act.put, List.setIfInBounds_toArray, List.set_cons_zero, List.set_cons_succ]
    refine wpAnyH_take (i := 6) (oi := ({ dst := (some 32), op := (Op.pick (Operand.tmp 29) (Operand.const (Value.bool true)) (Operand.tmp 31)), type := 4, pos := "law.go:85", after := #[{ on := 3, ground := Ground.data }, { on := 5, ground := Ground.data }], guard := none } : Oper)) (v := ?_) rfl (by kernel_rfl) (by kernel_rfl) (by kernel_rfl) (fun _ _ _ h => h) (Or.inl ⟨by rfl, ?_⟩) hHeld ?_
    rotate_left
    · intro w_ hSw; (try dsimp only at hSw); go_simp; try (with_reducible rfl)
    try simp only [Act.put, List.setIfInBounds_toArray, List.set_cons_zero, List.set_cons_succ]
    refine wpAnyH_take (i := 7) (oi := ({ dst := (some 33), op := (Op.move (Operand.tmp 32)), type := 4, pos := "law.go:85", after := #[{ on := 6, ground := Ground.data }, { on := 3, ground := Ground.chain }], guard := none } : Oper)) (v := ?_) rfl (by kernel_rfl) (by kernel_rfl) (by kernel_rfl) (fun _ _ _ h => h) (Or.inl ⟨by rfl, ?_⟩) hHeld ?_
    rotate_left
    · intro w_ hSw; (try dsimp only at hSw); go_simp; try (with_reducible rfl)
    try simp only [Act.put, List.setIfInBounds_toArray, List.set_cons_zero, List.set_cons_succ]
    refine wpAnyH_take (i := 8) (oi := ({ dst := (some 34), op := (Op.move (Operand.tmp 8)), type := 28, pos := "law.go:85", after := #[{ on := 7, ground := Ground.guard }], guard := (some (7, false)) } : Oper)) (v := ?_) rfl (by kernel_rfl) (by kernel_rfl) (by kernel_rfl) (fun _ _ _ h => h) (Or.inl ⟨by rfl, ?_⟩) hHeld ?_
    rotate_left
    · intro w_ hSw; (try dsimp only at hSw); go_simp; try (with_reducible rfl)
    try simp only [Act.put, List.setIfInBounds_toArray, List.set_cons_zero, List.set_cons_succ]
    refine wpAnyH_take (i := 9) (oi := ({ dst := (some 35), op := (Op.binOp BinOp.neq 28 (Operand.tmp 34) (Operand.const (Value.int IntKind.i64 1)) 28), type := 4, pos := "law.go:85", after := #[{ on := 8, ground := Ground.data }, { on := 7, ground := Ground.guard }], guard := (some (7, false)) } : Oper)) (v := ?_) rfl (by kernel_rfl) (by kernel_rfl) (by kernel_rfl) (fun _ _ _ h => h) (Or.inl ⟨by rfl, ?_⟩) hHeld ?_
    rotate_left
    · intro w_ hSw; (try dsimp only at hSw); go_simp; try (with_reducible rfl)
    try simp only [Act.put, List.setIfInBounds_toArray, List.set_cons_zero, List.set_cons_succ]
    refine wpAnyH_take (i := 10) (oi := ({ dst := (some 36), op := (Op.pick (Operand.tmp 33) (Operand.const (Value.bool true)) (Operand.tmp 35)), type := 4, pos := "law.go:85", after := #[{ on := 7, ground := Ground.data }, { on := 9, ground := Ground.data }], guard := none } : Oper)) (v := ?_) rfl (by kernel_rfl) (by kernel_rfl) (by kernel_rfl) (fun _ _ _ h => h) (Or.inl ⟨by rfl, ?_⟩) hHeld ?_
    rotate_left
    · intro w_ hSw; (try dsimp only at hSw); go_simp; try (with_reducible rfl)
    try simp only [Act.put, List.setIfInBounds_toArray, List.set_cons_zero, List.set_cons_succ]
    refine wpAnyH_take (i := 11) (oi := ({ dst := (some 37), op := (Op.move (Operand.tmp 36)), type := 4, pos := "law.go:85", after := #[{ on := 10, ground := Ground.data }, { on := 7, ground := Ground.chain }], guard := none } : Oper)) (v := ?_) rfl (by kernel_rfl) (by kernel_rfl) (by kernel_rfl) (fun _ _ _ h => h) (Or.inl ⟨by rfl, ?_⟩) hHeld ?_
    rotate_left
    · intro w_ hSw; (try dsimp only at hSw); go_simp; try (with_reducible rfl)
    try simp only [Act.put, List.setIfInBounds_toArray, List.set_cons_zero, List.set_cons_succ]
    refine wpAnyH_take (i := 12) (oi := ({ dst := (some 38), op := (Op.move (Operand.tmp 4)), type := 45, pos := "law.go:85", after := #[{ on := 11, ground := Ground.guard }], guard := (some (11, false)) } : Oper)) (v := ?_) rfl (by kernel_rfl) (by kernel_rfl) (by kernel_rfl) (fun _ _ _ h => h) (Or.inl ⟨by rfl, ?_⟩) hHeld ?_
    rotate_left
    · intro w_ hSw; (try dsimp only at hSw); go_simp; try (with_reducible rfl)
    try simp only [Act.put, List.setIfInBounds_toArray, List.set_cons_zero, List.set_cons_succ]
    refine wpAnyH_take (i := 13) (oi := ({ dst := (some 39), op := (Op.move (Operand.tmp 5)), type := 3, pos := "law.go:85", after := #[{ on := 11, ground := Ground.guard }], guard := (some (11, false)) } : Oper)) (v := ?_) rfl (by kernel_rfl) (by kernel_rfl) (by kernel_rfl) (fun _ _ _ h => h) (Or.inl ⟨by rfl, ?_⟩) hHeld ?_
    rotate_left
    · intro w_ hSw; (try dsimp only at hSw); go_simp; try (with_reducible rfl)
    try simp only [Act.put, List.setIfInBounds_toArray, List.set_cons_zero, List.set_cons_succ]
    refine wpAnyH_take (i := 14) (oi := ({ dst := (some 40), op := (Op.indexAddr 45 (Operand.tmp 38) (Operand.tmp 39)), type := 0, pos := "law.go:85", after := #[{ on := 12, ground := Ground.data }, { on := 13, ground := Ground.data }, { on := 11, ground := Ground.guard }], guard := (some (11, false)) } : Oper)) (v := ?_) rfl (by kernel_rfl) (by kernel_rfl) (by kernel_rfl) (fun _ _ _ h => h) (Or.inl ⟨by rfl, ?_⟩) hHeld ?_
    rotate_left
    · intro w_ hSw; (try dsimp only at hSw); go_simp; try (with_reducible rfl)
    try simp only [Act.put, List.setIfInBounds_toArray, List.set_cons_zero, List.set_cons_succ]
    refine wpAnyH_take (i := 15) (oi := ({ dst := (some 41), op := (Op.load 38 (Operand.tmp 40)), type := 38, pos := "law.go:85", after := #[{ on := 14, ground := Ground.data }, { on := 11, ground := Ground.guard }], guard := (some (11, false)) } : Oper)) (v := ?_) rfl (by kernel_rfl) (by kernel_rfl) (by kernel_rfl) (fun _ _ _ h => h) (Or.inl ⟨by rfl, ?_⟩) hHeld ?_
    rotate_left
    · intro w_ hSw; (try dsimp only at hSw); go_simp; try (with_reducible rfl)
    try simp only [Act.put, List.setIfInBounds_toArray, List.set_cons_zero, List.set_cons_succ]
    refine wpAnyH_take (i := 16) (oi := ({ dst := (some 42), op := (Op.load 25 (Operand.tmp 1)), type := 25, pos := "law.go:85", after := #[{ on := 11, ground := Ground.guard }], guard := (some (11, false)) } : Oper)) (v := _) rfl (by kernel_rfl) (by kernel_rfl) (by kernel_rfl) (fun _ _ _ h => h) (yieldsIf_load_mid (by rfl) _ _ rfl _ _ rfl _ _ (fun w h => h.2.1) Try.underlying25 rfl (by rw [HL.out]; kernel_rfl)) hHeld ?_
    try simp only [Act.put, List.setIfInBounds_toArray, List.set_cons_zero, List.set_cons_succ]
    refine wpAnyH_ready (rs := [17]) (by kernel_rfl) (by simp) ?_
    refine AllReadyH.cons (o := ({ dst := (some 43), op := (Op.call { callee := (Callee.value (Operand.func 20)), args := #[(Operand.tmp 41), (Operand.tmp 42)], argTypes := #[38, 25] }), type := 28, pos := "law.go:85", after := #[{ on := 15, ground := Ground.data }, { on := 16, ground := Ground.data }, { on := 11, ground := Ground.chain }, { on := 11, ground := Ground.guard }], guard := (some (11, false)) } : Oper)) rfl (fun K hK => ?_) AllReadyH.nil
    go_simp
    refine (n_save _ _ (nod_zero gz _ (HP.out.blk 2 rfl)) cs HL.out).mono ?_; rintro e ws ⟨rfl, hb⟩
    have HPn := Aside0.mk (HP.out.call hb); clear HP; have HP := HPn; clear HPn
    clear hb
    go_wp2_with fail
    clear hHeld
    refine hK.out _ _ ?_ (fun hHeld => ?_)
    · (try dsimp only); exact ⟨rangeB (HP.out.blk 0 rfl), rangeB (HP.out.blk 3 rfl), blk_cell (HP.out.blk 1 rfl) 1⟩
    clear hK K
    try simp only [Act.put, List.setIfInBounds_toArray, List.set_cons_zero, List.set_cons_succ]
    refine wpAnyH_take (i := 18) (oi := ({ dst := (some 44), op := (Op.binOp BinOp.neq 28 (Operand.tmp 43) (Operand.const (Value.int IntKind.i64 1)) 28), type := 4, pos := "law.go:85", after := #[{ on := 17, ground := Ground.data }, { on := 11, ground := Ground.guard }], guard := (some (11, false)) } : Oper)) (v := ?_) rfl (by kernel_rfl) (by kernel_rfl) (by kernel_rfl) (fun _ _ _ h => h) (Or.inl ⟨by rfl, ?_⟩) hHeld ?_
    rotate_left
    · intro w_ hSw; (try dsimp only at hSw); go_simp; try (with_reducible rfl)
    try simp only [Act.put, List.setIfInBounds_toArray, List.set_cons_zero, List.set_cons_succ]
    refine wpAnyH_take (i := 19) (oi := ({ dst := (some 45), op := (Op.pick (Operand.tmp 37) (Operand.const (Value.bool true)) (Operand.tmp 44)), type := 4, pos := "law.go:85", after := #[{ on := 11, ground := Ground.data }, { on := 18, ground := Ground.data }], guard := none } : Oper)) (v := ?_) rfl (by kernel_rfl) (by kernel_rfl) (by kernel_rfl) (fun _ _ _ h => h) (Or.inl ⟨by rfl, ?_⟩) hHeld ?_
    rotate_left
    · intro w_ hSw; (try dsimp only at hSw); go_simp; try (with_reducible rfl)
    try simp only [Act.put, List.setIfInBounds_toArray, List.set_cons_zero, List.set_cons_succ]
    refine wpAnyH_done (by kernel_rfl) ?_ _
    clear hHeld
    have HPd := Aside0.mk HP.out.drop1
    clear HP
    have HP := HPd
    clear HPd
    go_wp2_with fail
    go_roundg (gk - 1)
    case measure => have := HK.out; omega
    case rel => exact ⟨2, by first | rfl | simp, ⟨by have := HK.out; omega⟩, HP⟩
  | 2, hk =>
    clear hk
    go_wp2_with fail
    refine (c_awake _).mono ?_; rintro e w_ ⟨rfl, hb⟩
    have HPn := Aside0.mk (HP.out.call hb)
    clear HP hb
    go_wp2_with fail
    go_ret
    exact ⟨rfl, HPn.out.below⟩
  | i + 3, hk => omega
end Go.Proofs.Ytgflghnbpbiakaa.Su
namespace Go.Proofs.Ytgflghnbpbiakaa.Su
open Go.Proofs.Ytgflghnbpbiakaa.H hiding C_ints cellL cellN ev_copy ev_store_mid frozC i64k run_cut_all run_cut_arr run_cut_to setL set_self
open Go.RowKit Go.Proofs.Ytgflghnbpbiakaa.XH Go.Proofs.YtgflghnbpbiakaaW.PrintWords Go.Proofs.YtgflghnbpbiakaaW.PrintLast Go.Proofs.YtgflghnbpbiakaaW.PrintMore Go.Proofs.YtgflghnbpbiakaaXe Go.Proofs.YtgflghnbpbiakaaXs
set_option linter.unusedVariables false
set_option linter.unusedSimpArgs false
attribute [local go_sem ↓] Go.wp_at_zero Go.wp_at_succ
attribute [local go_sem] valUpon
open Go.Proofs.Ytgflghnbpbiakaa.D hiding c_len c_new c_write
attribute [local go_sem ↓ high] bn23 bn25
attribute [local go_sem high] BN25.z BN25.num BN25.two
set_option maxHeartbeats 8000000 in
set_option maxRecDepth 100000 in
theorem superBack_law (s : SP) (hl : s.root.length = 32) (hB : Bytes s.root) (A : Option Addr) (c : Nat) (b : List Int) (w : World) (hr : Kd.C (Kd.int .u8) w A b.length b) (hc : b.length ≤ c) (hBb : Bytes b) :
    Calls Try.prog 6 #[.agg (c25 s).toArray, .slice A b.length c] w fun e w' => e = .returned (.bool true) ∧ Below w.heap.size w w' := by
  have HR := Aside0.mk hr
  have HC := Aside0.mk hc
  have HP := Aside0.mk (Hp.start w)
  have HSL := Aside0.mk (c25_len s hl)
  have HS1 := Aside0.mk (c25_one s)
  have CP0 := Aside0.mk (fun (h : chk s = false) w => c_spack0 s hl h w)
  have CP8 := Aside0.mk (fun (h : chk s = true) w => c_spack8 s hl h w)
  have CK := Aside0.mk (fun w => c_check s hl w)
  have HU := Aside0.mk (fun (h : chk s = true) => And.intro (unpS_pack s hl h) (isS_pack s hl h))
  have HXL := Aside0.mk (packS_len s hl)
  have HXB := Aside0.mk (packS_bytes s hB)
  have HKE := Aside0.mk (show (chk s = true → chkE s = 0) ∧ (chk s = false → chkE s = 2) from ⟨fun h => by unfold chkE; rw [if_pos h], fun h => by unfold chkE; rw [h]; rfl⟩)
  have heqs := eq25_run s s hl hl rfl
  have heq0 := eq25_run s0 s0 rfl rfl rfl
  obtain ⟨X, hX⟩ : ∃ z, packS s = z := ⟨_, rfl⟩
  rw [hX] at HU HXL HXB CP8
  obtain ⟨ks, hks⟩ : ∃ z, chk s = z := ⟨_, rfl⟩
  rw [hks] at CP0 CP8 HU HKE
  have HCU := Aside0.mk (fun (h : unpS X = s) => congrArg c25 h)
  obtain ⟨cs, hcs⟩ : ∃ z, c25 s = z := ⟨_, rfl⟩
  rw [hcs] at HSL HS1 CP0 CP8 CK heqs HCU ⊢
  have CU := Aside0.mk (fun (w' : World) (h : b.length ≤ 1000000) (hr : Kd.C (Kd.int .u8) w' A b.length b) => c_sunpack A c b w' hr hc h hBb)
  have HUF := Aside0.mk (fun (h : isS b = false) => (show unpS b = s0 from by unfold unpS; rw [h]; rfl))
  have HUT := Aside0.mk (fun (h : isS b = true) => And.intro (pack_unpS b h) (chk_unpS b h))
  have HUL := Aside0.mk (c25_len (unpS b) (unpS_root b))
  have HU1 := Aside0.mk (c25_one (unpS b))
  have CPU := Aside0.mk (fun (h : chk (unpS b) = true) w => c_spack8 (unpS b) (unpS_root b) h w)
  obtain ⟨kb, hkb⟩ : ∃ z, isS b = z := ⟨_, rfl⟩
  rw [hkb] at CU HUF HUT
  clear hr hc hBb hl hB hX hks hcs hkb
  by_cases c1 : (100 : Int) < (b.length : Int)
  · have d1 : decide ((100 : Int) < (b.length : Int)) = true := decide_eq_true c1
    clear c1
    go_enter Try.func6, Try.ntmps6
    go_wp2_with (first | ((with_reducible refine gate_dst (N := 2) rfl ?_); refine ev_box rfl 25 (.tmp 0) rfl (cs.toArray) rfl ?_; intro g_s w1 hge hg hb; have HPn := Aside0.mk (HP.out.newB hb hg hge); clear HP; have HP := HPn; clear HPn; clear hge hg hb))
    refine (c_known _).mono ?_; rintro e w2 ⟨rfl, hb⟩; have HPn := Aside0.mk (HP.out.call hb); clear HP; have HP := HPn; clear HPn; clear hb
    go_wp2_with fail
    go_ret
    exact ⟨rfl, HP.out.below⟩
  have d1 : decide ((100 : Int) < (b.length : Int)) = false := decide_eq_false c1
  have HN := Aside0.mk (show b.length ≤ 1000000 by omega)
  clear c1
  go_enter Try.func6, Try.ntmps6
  go_wp2_with (first | ((with_reducible refine gate_dst (N := 2) rfl ?_); refine ev_box rfl 25 (.tmp 0) rfl (cs.toArray) rfl ?_; intro g_s w1 hge hg hb; have HPn := Aside0.mk (HP.out.newB hb hg hge); clear HP; have HP := HPn; clear HPn; clear hge hg hb))
  refine (c_known _).mono ?_; rintro e w2 ⟨rfl, hb⟩; have HPn := Aside0.mk (HP.out.call hb); clear HP; have HP := HPn; clear HPn; clear hb
  go_wp2_with (first | ((with_reducible refine gate_dst (N := 20) rfl ?_); refine ev_load rfl 25 (.tmp 2) rfl g_s rfl (HP.out.blk 0 rfl) Try.underlying25 rfl (by rw [List.size_toArray, HSL.out]; kernel_rfl) ?_))
  cases ks
  · refine (CP0.out rfl _).mono ?_; rintro e w3 ⟨rfl, hb⟩; have HPn := Aside0.mk (HP.out.call hb); clear HP; have HP := HPn; clear HPn; clear hb
    go_wp2_with fail
    refine (CU.out _ HN.out (Kd.C_below HR.out HP.out.below)).mono ?_; rintro e w6 ⟨rfl, hb⟩; have HPn := Aside0.mk (HP.out.call hb); clear HP; have HP := HPn; clear HPn; clear hb
    obtain ⟨cu, hcu⟩ : ∃ z, c25 (unpS b) = z := ⟨_, rfl⟩
    have HCB := Aside0.mk hcu
    rw [hcu] at HUL HU1 CPU ⊢
    clear hcu
    cases kb
    · go_wp2_with (first | ((with_reducible refine gate_dst (N := 10) rfl ?_); refine ev_alloc rfl 25 rfl (.agg (c25 s0).toArray) (by kernel_rfl) ?_; intro g_u w7 hge hg hb; have HPn := Aside0.mk (HP.out.newB hb hg hge); clear HP; have HP := HPn; clear HPn; clear hge hg hb) | ((with_reducible refine gate_store (t := 25) (p := 10) rfl ?_); refine ev_store rfl 25 (.tmp 10) (.tmp 46) rfl rfl _ rfl (cells := cu.toArray) rfl (HP.out.blk 0 rfl) (by rw [List.size_toArray, HUL.out]; kernel_rfl) (show (c25 s0).toArray.size = cu.toArray.size from by rw [List.size_toArray, List.size_toArray, HUL.out, c25_len s0 rfl]) HU1.out ?_; intro w8 hg hgr; have HPn := Aside0.mk (HP.out.setB 0 rfl hgr hg); clear HP; have HP := HPn; clear HPn; clear hg hgr) | ((with_reducible refine gate_dst (N := 53) rfl ?_); refine ev_load rfl 25 (.tmp 2) rfl g_s rfl (HP.out.blk 1 rfl) Try.underlying25 rfl (by rw [List.size_toArray, HSL.out]; kernel_rfl) ?_))
      refine (CK.out _).mono ?_; rintro e w9 ⟨rfl, hb⟩; have HPn := Aside0.mk (HP.out.call hb); clear HP; have HP := HPn; clear HPn; clear hb
      rw [HKE.out.2 (by trivial)]
      have hcz : cu = c25 s0 := by rw [← HCB.out, HUF.out (by trivial)]
      subst hcz
      go_wp2_with (first | ((with_reducible refine gate_dst (N := 58) rfl ?_); refine ev_load rfl 25 (.tmp 10) rfl g_u rfl (HP.out.blk 0 rfl) Try.underlying25 rfl (by rw [List.size_toArray, HUL.out]; kernel_rfl) ?_))
      go_ret
      exact ⟨rfl, HP.out.below⟩
    · clear heq0 heqs
      go_wp2_with (first | ((with_reducible refine gate_dst (N := 10) rfl ?_); refine ev_alloc rfl 25 rfl (.agg (c25 s0).toArray) (by kernel_rfl) ?_; intro g_u w7 hge hg hb; have HPn := Aside0.mk (HP.out.newB hb hg hge); clear HP; have HP := HPn; clear HPn; clear hge hg hb) | ((with_reducible refine gate_store (t := 25) (p := 10) rfl ?_); refine ev_store rfl 25 (.tmp 10) (.tmp 46) rfl rfl _ rfl (cells := cu.toArray) rfl (HP.out.blk 0 rfl) (by rw [List.size_toArray, HUL.out]; kernel_rfl) (show (c25 s0).toArray.size = cu.toArray.size from by rw [List.size_toArray, List.size_toArray, HUL.out, c25_len s0 rfl]) HU1.out ?_; intro w8 hg hgr; have HPn := Aside0.mk (HP.out.setB 0 rfl hgr hg); clear HP; have HP := HPn; clear HPn; clear hg hgr) | ((with_reducible refine gate_dst (N := 63) rfl ?_); refine ev_load rfl 25 (.tmp 10) rfl g_u rfl (HP.out.blk 0 rfl) Try.underlying25 rfl (by rw [List.size_toArray, HUL.out]; kernel_rfl) ?_))
      have CC := Aside0.mk (CPU.out (HUT.out (by trivial)).2 w8)
      rw [(HUT.out (by trivial)).1] at CC
      refine CC.out.mono ?_; rintro e w9 ⟨g9, l9, rfl, hu1, hu2, hu3, hge, hg, hb⟩
      have HPn := Aside0.mk (HP.out.newB hb hg hge)
      have HP9 := Aside0.mk (And.intro hu1 (And.intro hu2 hu3))
      clear HP hb hg hge hu1 hu2 hu3 CC
      have HP := HPn
      clear HPn
      go_wp2_with fail
      refine (retconkit_SameBytes.calls (some ⟨g9, 0, none⟩) l9.length b A c b true _ (C_preU (HP.out.blk 0 rfl) HP9.out.2.2 HP9.out.1 HP9.out.2.1) HP9.out.2.1 (Kd.C_below HR.out HP.out.below) HC.out (same_f _)).mono ?_; rintro e w_ ⟨rfl, n_, rfl⟩; have HPn := Aside0.mk (HP.out.drewN n_); clear HP; have HP := HPn; clear HPn
      go_wp2_with fail
      go_ret
      exact ⟨rfl, HP.out.below⟩
  · refine (CP8.out rfl _).mono ?_; rintro e w3 ⟨g8, l8, rfl, ht1, ht2, ht3, hge, hg, hb⟩
    have HPn := Aside0.mk (HP.out.newB hb hg hge)
    clear HP hb hg hge
    have HP := HPn
    clear HPn
    have hu := HU.out rfl
    have d64 : ((X.length : Int) != 64) = false := bne_eq_false_iff_eq.2 (by have := HXL.out; omega)
    have CX := Aside0.mk (fun (w' : World) (hg : w'.heap[g8]? = some (.cells (u8s l8).toArray 5 (0, 0))) => c_sunpack (some ⟨g8, 0, none⟩) l8.length X w' (C_preU hg ht3 ht1 ht2) ht2 (by have := HXL.out; omega) HXB.out)
    rw [HCU.out hu.1, hu.2] at CX
    clear hu ht1 ht2 ht3
    go_wp2_with fail
    refine (CX.out _ (HP.out.blk 0 rfl)).mono ?_; rintro e w4 ⟨rfl, hb⟩; have HPn := Aside0.mk (HP.out.call hb); clear HP; have HP := HPn; clear HPn; clear hb
    go_wp2_with (first | ((with_reducible refine gate_dst (N := 8) rfl ?_); refine ev_alloc rfl 25 rfl (.agg (c25 s0).toArray) (by kernel_rfl) ?_; intro g_x wa hge hg hb; have HPn := Aside0.mk (HP.out.newB hb hg hge); clear HP; have HP := HPn; clear HPn; clear hge hg hb) | ((with_reducible refine gate_store (t := 25) (p := 8) rfl ?_); refine ev_store rfl 25 (.tmp 8) (.tmp 29) rfl rfl _ rfl (cells := cs.toArray) rfl (HP.out.blk 0 rfl) (by rw [List.size_toArray, HSL.out]; kernel_rfl) (show (c25 s0).toArray.size = cs.toArray.size from by rw [List.size_toArray, List.size_toArray, HSL.out, c25_len s0 rfl]) HS1.out ?_; intro wb hg hgr; have HPn := Aside0.mk (HP.out.setB 0 rfl hgr hg); clear HP; have HP := HPn; clear HPn; clear hg hgr) | ((with_reducible refine gate_dst (N := 34) rfl ?_); refine ev_load rfl 25 (.tmp 8) rfl g_x rfl (HP.out.blk 0 rfl) Try.underlying25 rfl (by rw [List.size_toArray, HSL.out]; kernel_rfl) ?_) | ((with_reducible refine gate_dst (N := 35) rfl ?_); refine ev_load rfl 25 (.tmp 2) rfl g_s rfl (HP.out.blk 2 rfl) Try.underlying25 rfl (by rw [List.size_toArray, HSL.out]; kernel_rfl) ?_))
    refine (CU.out _ HN.out (Kd.C_below HR.out HP.out.below)).mono ?_; rintro e w6 ⟨rfl, hb⟩; have HPn := Aside0.mk (HP.out.call hb); clear HP; have HP := HPn; clear HPn; clear hb
    obtain ⟨cu, hcu⟩ : ∃ z, c25 (unpS b) = z := ⟨_, rfl⟩
    have HCB := Aside0.mk hcu
    rw [hcu] at HUL HU1 CPU ⊢
    clear hcu
    cases kb
    · go_wp2_with (first | ((with_reducible refine gate_dst (N := 10) rfl ?_); refine ev_alloc rfl 25 rfl (.agg (c25 s0).toArray) (by kernel_rfl) ?_; intro g_u w7 hge hg hb; have HPn := Aside0.mk (HP.out.newB hb hg hge); clear HP; have HP := HPn; clear HPn; clear hge hg hb) | ((with_reducible refine gate_store (t := 25) (p := 10) rfl ?_); refine ev_store rfl 25 (.tmp 10) (.tmp 46) rfl rfl _ rfl (cells := cu.toArray) rfl (HP.out.blk 0 rfl) (by rw [List.size_toArray, HUL.out]; kernel_rfl) (show (c25 s0).toArray.size = cu.toArray.size from by rw [List.size_toArray, List.size_toArray, HUL.out, c25_len s0 rfl]) HU1.out ?_; intro w8 hg hgr; have HPn := Aside0.mk (HP.out.setB 0 rfl hgr hg); clear HP; have HP := HPn; clear HPn; clear hg hgr) | ((with_reducible refine gate_dst (N := 53) rfl ?_); refine ev_load rfl 25 (.tmp 2) rfl g_s rfl (HP.out.blk 3 rfl) Try.underlying25 rfl (by rw [List.size_toArray, HSL.out]; kernel_rfl) ?_))
      refine (CK.out _).mono ?_; rintro e w9 ⟨rfl, hb⟩; have HPn := Aside0.mk (HP.out.call hb); clear HP; have HP := HPn; clear HPn; clear hb
      rw [HKE.out.1 (by trivial)]
      have hcz : cu = c25 s0 := by rw [← HCB.out, HUF.out (by trivial)]
      subst hcz
      go_wp2_with (first | ((with_reducible refine gate_dst (N := 58) rfl ?_); refine ev_load rfl 25 (.tmp 10) rfl g_u rfl (HP.out.blk 0 rfl) Try.underlying25 rfl (by rw [List.size_toArray, HUL.out]; kernel_rfl) ?_))
      go_ret
      exact ⟨rfl, HP.out.below⟩
    · clear heq0 heqs
      go_wp2_with (first | ((with_reducible refine gate_dst (N := 10) rfl ?_); refine ev_alloc rfl 25 rfl (.agg (c25 s0).toArray) (by kernel_rfl) ?_; intro g_u w7 hge hg hb; have HPn := Aside0.mk (HP.out.newB hb hg hge); clear HP; have HP := HPn; clear HPn; clear hge hg hb) | ((with_reducible refine gate_store (t := 25) (p := 10) rfl ?_); refine ev_store rfl 25 (.tmp 10) (.tmp 46) rfl rfl _ rfl (cells := cu.toArray) rfl (HP.out.blk 0 rfl) (by rw [List.size_toArray, HUL.out]; kernel_rfl) (show (c25 s0).toArray.size = cu.toArray.size from by rw [List.size_toArray, List.size_toArray, HUL.out, c25_len s0 rfl]) HU1.out ?_; intro w8 hg hgr; have HPn := Aside0.mk (HP.out.setB 0 rfl hgr hg); clear HP; have HP := HPn; clear HPn; clear hg hgr) | ((with_reducible refine gate_dst (N := 63) rfl ?_); refine ev_load rfl 25 (.tmp 10) rfl g_u rfl (HP.out.blk 0 rfl) Try.underlying25 rfl (by rw [List.size_toArray, HUL.out]; kernel_rfl) ?_))
      have CC := Aside0.mk (CPU.out (HUT.out (by trivial)).2 w8)
      rw [(HUT.out (by trivial)).1] at CC
      refine CC.out.mono ?_; rintro e w9 ⟨g9, l9, rfl, hu1, hu2, hu3, hge, hg, hb⟩
      have HPn := Aside0.mk (HP.out.newB hb hg hge)
      have HP9 := Aside0.mk (And.intro hu1 (And.intro hu2 hu3))
      clear HP hb hg hge hu1 hu2 hu3 CC
      have HP := HPn
      clear HPn
      go_wp2_with fail
      refine (retconkit_SameBytes.calls (some ⟨g9, 0, none⟩) l9.length b A c b true _ (C_preU (HP.out.blk 0 rfl) HP9.out.2.2 HP9.out.1 HP9.out.2.1) HP9.out.2.1 (Kd.C_below HR.out HP.out.below) HC.out (same_f _)).mono ?_; rintro e w_ ⟨rfl, n_, rfl⟩; have HPn := Aside0.mk (HP.out.drewN n_); clear HP; have HP := HPn; clear HPn
      go_wp2_with fail
      go_ret
      exact ⟨rfl, HP.out.below⟩
end Go.Proofs.Ytgflghnbpbiakaa.Su
