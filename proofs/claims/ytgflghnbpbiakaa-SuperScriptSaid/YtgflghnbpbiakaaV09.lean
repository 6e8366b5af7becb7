import Derived.Test.YtgflghnbpbiakaaV08
import Derived.Test.YtgflghnbpbiakaaV05
namespace Go.Proofs.Ytgflghnbpbiakaa.Su
open Go.Proofs.Ytgflghnbpbiakaa.H hiding C_ints cellL cellN ev_copy ev_store_mid frozC i64k run_cut_all run_cut_arr run_cut_to setL set_self
open Go.RowKit Go.Proofs.Ytgflghnbpbiakaa.XH Go.Proofs.YtgflghnbpbiakaaW.PrintWords Go.Proofs.YtgflghnbpbiakaaW.PrintLast Go.Proofs.YtgflghnbpbiakaaW.PrintMore Go.Proofs.YtgflghnbpbiakaaXe Go.Proofs.YtgflghnbpbiakaaXs
set_option linter.unusedVariables false
set_option linter.unusedSimpArgs false
attribute [local go_sem ↓] Go.wp_at_zero Go.wp_at_succ
attribute [local go_sem] valUpon
open Go.Proofs.Ytgflghnbpbiakaa.D hiding c_len c_new c_write
attribute [local go_sem ↓ high] bn23 bn25
attribute [local go_sem high] BN25.z BN25.num BN25.two
theorem resC {P : Program} {fn : Func} {p : Tmp} {ty : TypeId} (h : fn.results = #[.cell p ty]) (tmps : Array Value) (w : World) {g : Nat} {t : TypeId} {cs : Array Value} {fr : Nat × Nat} {d : TypeDesc}
    (hp : tmps.getD p undef = .pointer (some ⟨g, 0, none⟩)) (hg : w.heap[g]? = some (.cells cs t fr)) (hu : P.underlying ty = some d) (hd : (match d with | .struct _ | .array _ _ => true | _ => false) = true) (hi : (P.info? ty).map (·.size) = some cs.size) : (results fn tmps).run P w = .ok (.agg cs) w := by
  have hp' : tmps[p]?.getD undef = .pointer (some ⟨g, 0, none⟩) := by simpa using hp
  simp [results, h, hp', asAddr, run_loadVar_row w g t ty cs fr d hg hu hd hi]
def ofS (n : Int) : SP := ⟨n, z32, 0, 0⟩
theorem z32_bytes : Bytes z32 := fun x hx => by rw [(List.mem_replicate.1 hx).2]; decide
def stt (S : DS) (b0 b1 : List Int) : Prop := S.out = false ∧ S.fuse = -1 ∧ S.many = 4 ∧ sec S 0 = b0 ∧ sec S 1 = b1 ∧ okD S ∧ S.l.length ≤ 10
def stD (b0 b1 : List Int) (k : Int) : List Int := if k = 0 then b0 else b1
theorem stt_sec {S : DS} {b0 b1 : List Int} (h : stt S b0 b1) {k : Int} (hk : k = 0 ∨ k = 1) : sec S k = stD b0 b1 k := by
  rcases hk with rfl | rfl
  · exact h.2.2.2.1
  · exact h.2.2.2.2.1
theorem stt_new : stt (newS 4) s64' s64' := by
  refine ⟨rfl, rfl, rfl, rfl, rfl, ⟨fun k => ⟨rfl, s64'_b⟩, fun p hp => by simp [newS] at hp, by decide⟩, by decide⟩
theorem stt_slots {S : DS} {b0 b1 : List Int} (h : stt S b0 b1) : slotsE S = 0 := by
  obtain ⟨h1, h2, h3, _⟩ := h
  unfold slotsE
  rw [h1, h3]
  rfl
theorem stt_best {S : DS} {b0 b1 : List Int} (h : stt S b0 b1) : bestD S = bestB b0 b1 := by
  unfold bestD
  rw [h.2.2.2.1, h.2.2.2.2.1]
theorem stt_write {S : DS} {b0 b1 : List Int} (h : stt S b0 b1) (o : Int) (ho : o = 0 ∨ o = 1) (b : List Int) (hb : b.length = 64) (hB : Bytes b) (hl : S.l.length ≤ 9) : writeE S o b = 0 ∧ stt (writeS S o b) (if o = 0 then b else b0) (if o = 1 then b else b1) ∧ (writeS S o b).l = S.l ++ [(o, b)] := by
  obtain ⟨h1, h2, h3, h4, h5, h6, h7⟩ := h
  have hr : S.readyE o = 0 := by unfold DS.readyE readyD; rw [h1, h3]; rcases ho with rfl | rfl <;> rfl
  have hw : writeS S o b = { S.step with l := S.l ++ [(o, b)] } := by
    unfold writeS
    rw [if_neg (by rw [hr]; decide), if_neg (by rw [hb]; decide), if_neg (by rw [h2]; decide)]
  refine ⟨?_, ?_, by rw [hw]⟩
  · unfold writeE
    rw [if_neg (by rw [hr]; decide), if_neg (by rw [hb]; decide), if_neg (by rw [h2]; decide)]
  · rw [hw]
    have hsec : ∀ k, sec { S.step with l := S.l ++ [(o, b)] } k = if o = k then b else sec S k := fun k => by
      unfold sec
      show putF S.at' (S.l ++ [(o, b)]) k = _
      rw [putF_snoc]
    refine ⟨h1, ?_, h3, ?_, ?_, ⟨h6.1, fun p hp => ?_, ?_⟩, ?_⟩
    · show burn S.fuse = -1
      rw [h2]; rfl
    · rw [hsec, h4]
    · rw [hsec, h5]
    · rcases List.mem_append.1 hp with hp | hp
      · exact h6.2.1 p hp
      · rw [List.mem_singleton.1 hp]; exact ⟨hb, hB⟩
    · show (S.l ++ [(o, b)]).length ≤ 1000
      rw [List.length_append]; simp; omega
    · show (S.l ++ [(o, b)]).length ≤ 10
      rw [List.length_append]; simp; omega
theorem stt_flush {S : DS} {b0 b1 : List Int} (h : stt S b0 b1) : flushE S = 0 ∧ stt (flushS S) b0 b1 ∧ (flushS S).l = [] := by
  have hok := h.2.2.2.2.2.1
  have hsok := fun k => sec_ok hok k
  obtain ⟨h1, h2, h3, h4, h5, h6, h7⟩ := h
  have hn : ¬ (S.out = true ∨ S.fuse = 0) := by rw [h1, h2]; decide
  have hf : flushS S = { S.step with at' := putF S.at' S.l, l := [] } := by unfold flushS; rw [if_neg hn]
  refine ⟨by unfold flushE; rw [if_neg hn], ?_, by rw [hf]⟩
  rw [hf]
  refine ⟨h1, ?_, h3, h4, h5, ?_, Nat.zero_le _⟩
  · show burn S.fuse = -1
    rw [h2]; rfl
  · exact ⟨hsok, fun p (hp : p ∈ ([] : List (Int × List Int))) => by simp at hp, Nat.zero_le _⟩
theorem packS_bytes (s : SP) (hB : Bytes s.root) : Bytes (packS s) := by
  intro x hx
  rcases List.mem_append.1 hx with h | h
  · exact fifS_bytes s hB x h
  · exact sha_byteB _ x (List.mem_of_mem_take h)
theorem stt_save {S : DS} {b0 b1 : List Int} (h : stt S b0 b1) (hl : S.l.length ≤ 9) (s : SP) (hr : s.root.length = 32) (hB : Bytes s.root) (hk : chk s = true) (o : Int) (ho : (if bestB b0 b1 = 0 then (1 : Int) else 0) = o) (ht : ¬ (0 ≤ bestB b0 b1 ∧ s.num ≤ (unpS (stD b0 b1 (bestB b0 b1))).num)) :
    saveE S s = 0 ∧ stt (saveS S s) (if o = 0 then packS s else b0) (if o = 1 then packS s else b1) ∧ (saveS S s).l = [] := by
  have hbd := stt_best h
  have hoo : otherD S = o := by unfold otherD; rw [hbd]; exact ho
  have ho01 : o = 0 ∨ o = 1 := by rw [← ho]; split <;> simp
  have hlate : lateD S s = false := by
    have hb3 : 0 ≤ bestB b0 b1 → bestB b0 b1 = 0 ∨ bestB b0 b1 = 1 := fun h0 => by
      have := best_cases S
      rw [hbd] at this
      rcases this with h1 | h1 | h1
      · omega
      · exact .inl h1.1
      · exact .inr h1.1
    unfold lateD
    rw [hbd]
    by_cases h0 : 0 ≤ bestB b0 b1
    · rw [stt_sec h (hb3 h0)]
      have : ¬ s.num ≤ (unpS (stD b0 b1 (bestB b0 b1))).num := fun h1 => ht ⟨h0, h1⟩
      simp [this]
    · simp [h0]
  obtain ⟨w1, w2, w3⟩ := stt_write h o ho01 (packS s) (packS_len s hr) (packS_bytes s hB) hl
  obtain ⟨f1, f2, f3⟩ := stt_flush w2
  have e1 : saveE S s = 0 := by
    unfold saveE
    rw [if_neg (by rw [hk]; decide), if_neg (by rw [stt_slots h]; decide), if_neg (by rw [hlate]; decide), hoo, if_neg (by rw [w1]; decide)]
    exact f1
  have e2 : saveS S s = flushS (writeS S o (packS s)) := by
    unfold saveS
    rw [if_neg (by rw [hk]; decide), if_neg (by rw [stt_slots h]; decide), if_neg (by rw [hlate]; decide), hoo, if_neg (by rw [w1]; decide)]
  rw [e2]
  exact ⟨e1, f2, f3⟩
theorem stt_late {S : DS} {b0 b1 : List Int} (h : stt S b0 b1) (s : SP) (hk : chk s = true) (hb : bestB b0 b1 = 0 ∨ bestB b0 b1 = 1) (ht : s.num ≤ (unpS (stD b0 b1 (bestB b0 b1))).num) : saveE S s = 5 ∧ saveS S s = S := by
  have hbd := stt_best h
  have hlate : lateD S s = true := by
    unfold lateD
    rw [hbd, stt_sec h hb]
    have h0 : 0 ≤ bestB b0 b1 := by omega
    simp [h0, ht]
  constructor
  · unfold saveE
    rw [if_neg (by rw [hk]; decide), if_neg (by rw [stt_slots h]; decide), if_pos hlate]
  · unfold saveS
    rw [if_neg (by rw [hk]; decide), if_neg (by rw [stt_slots h]; decide), if_pos hlate]
theorem stt_load {S : DS} {b0 b1 : List Int} (h : stt S b0 b1) (hb : bestB b0 b1 = 0 ∨ bestB b0 b1 = 1) : loadE S = 0 ∧ loadK S = bestB b0 b1 ∧ loadS S = unpS (stD b0 b1 (bestB b0 b1)) := by
  have hbd := stt_best h
  have hs := stt_slots h
  have h0 : 0 ≤ bestB b0 b1 := by omega
  refine ⟨?_, ?_, ?_⟩
  · unfold loadE; rw [hbd, if_neg (by rw [hs]; decide), if_pos h0]
  · unfold loadK; rw [hbd, if_neg (by rw [hs]; decide), if_pos h0]
  · unfold loadS; rw [hbd, if_neg (by rw [hs]; decide), if_pos h0, stt_sec h hb]
theorem isS_zero : isS s64' = false := by
  rw [Bool.eq_false_iff]
  intro h
  have := ((isS_prog s64' s64'_b).1 h).2.1
  revert this
  decide
theorem best_zz : bestB s64' s64' = -1 := by unfold bestB; rw [isS_zero]; rfl
theorem best_pz (s : SP) (hr : s.root.length = 32) (hk : chk s = true) : bestB (packS s) s64' = 0 := by unfold bestB; rw [isS_zero, isS_pack s hr hk]; rfl
theorem best_pp (s t : SP) (hr : s.root.length = 32) (hk : chk s = true) (hr2 : t.root.length = 32) (hk2 : chk t = true) (h : s.num < t.num) : bestB (packS s) (packS t) = 1 := by
  unfold bestB
  rw [isS_pack s hr hk, isS_pack t hr2 hk2, unpS_pack s hr hk, unpS_pack t hr2 hk2, if_pos rfl, if_pos rfl, if_pos h]
theorem eq25_run (a b : SP) (ha : a.root.length = 32) (hb : b.root.length = 32) (h : a = b) : ∀ d w, (Op.equalIn (d + 3) 25 (.agg (c25 a).toArray) (.agg (c25 b).toArray)).run Try.prog w = .ok true w := fun d w => by
  subst h
  exact eq25_same d a ha w
set_option maxHeartbeats 8000000 in
set_option maxRecDepth 100000 in
theorem c_of (n : Int) (w : World) : Calls Try.prog 22 #[.int .i64 n] w fun e w' => e = .returned (.agg (c25 (ofS n)).toArray) ∧ Below w.heap.size w w' := by
  have HP := Aside0.mk (Hp.start w)
  go_enter Try.func22, Try.ntmps22
  go_wp2_with (first | ((with_reducible refine gate_dst (N := 2) rfl ?_); refine ev_alloc rfl 25 rfl (.agg (c25 s0).toArray) (by kernel_rfl) ?_; intro g_o w1 hge hg hb; have HPn := Aside0.mk (HP.out.newB hb hg hge); clear HP; have HP := HPn; clear HPn; clear hge hg hb) | ((with_reducible refine gate_store (t := 25) (p := 2) rfl ?_); refine ev_store rfl 25 (.tmp 2) (.tmp 4) rfl rfl _ rfl (cells := (c25 (ofS n)).toArray) rfl (HP.out.blk 0 rfl) (by rw [List.size_toArray, c25_len (ofS n) rfl]; kernel_rfl) (by rfl) (c25_one _) ?_; intro w2 hg hgr; have HPn := Aside0.mk (HP.out.setB 0 rfl hgr hg); clear HP; have HP := HPn; clear HPn; clear hg hgr))
  refine bodyPost_ret (resC rfl _ _ rfl (HP.out.blk 0 rfl) Try.underlying25 rfl (by rw [List.size_toArray, c25_len (ofS n) rfl]; kernel_rfl)) rfl ?_
  exact ⟨rfl, HP.out.below⟩
set_option maxHeartbeats 8000000 in
set_option maxRecDepth 100000 in
theorem c_made13 {w0 w : World} {Rs : List Res} (HP : Hp w0 w Rs) (n : Int) (h0 : 0 ≤ n) (h1 : n ≤ 65536) :
    Calls Try.prog 21 #[.int .i64 n] w fun e w' => ∃ g, e = .returned (.pointer (some ⟨g, 0, none⟩)) ∧ Hp w0 w' (rDisk w0.heap.size g (newS n) :: Rs) := by
  have HPn := Aside0.mk HP
  have HN := Aside0.mk (And.intro h0 h1)
  clear HP h0 h1
  have HP := HPn
  clear HPn
  go_enter Try.func21, Try.ntmps21
  go_wp2_with fail
  refine (c_newD HP.out n HN.out.1 HN.out.2).mono ?_; rintro e wa ⟨g, rfl, hpn⟩
  go_wp2_with fail
  go_ret
  exact ⟨g, rfl, hpn⟩
set_option maxHeartbeats 8000000 in
set_option maxRecDepth 100000 in
theorem c_fails {w0 w : World} {Rs : List Res} (HP0 : Hp w0 w Rs) (i g : Nat) (S : DS) (hi : Rs[i]? = some (rDisk w0.heap.size g S)) (hok : okD S) (want : Int) (h : loadE S = want ∧ loadK S = 0 ∧ loadS S = s0) :
    Calls Try.prog 24 #[.pointer (some ⟨g, 0, none⟩), .int .i64 want] w fun e w' => e = .returned (.bool true) ∧ Hp w0 w' Rs := by
  have HP := Aside0.mk HP0
  have CL := Aside0.mk (fun (w : World) (HP : Hp w0 w Rs) => c_load HP i g S hi hok)
  rw [h.1, h.2.1, h.2.2] at CL
  have heq := eq25_run s0 s0 rfl rfl rfl
  have HSL := Aside0.mk (c25_len s0 rfl)
  clear HP0 hi hok h
  go_enter Try.func24, Try.ntmps24
  go_wp2_with fail
  refine (CL.out _ HP.out).mono ?_; rintro e w1 ⟨rfl, hpn⟩
  clear HP
  have HP := Aside0.mk hpn
  clear hpn
  go_wp2_with (first | ((with_reducible refine gate_dst (N := 5) rfl ?_); refine ev_alloc rfl 25 rfl (.agg (c25 s0).toArray) (by kernel_rfl) ?_; intro g_o w2 hge hg hb; have HPn := Aside0.mk (HP.out.newB hb hg hge); clear HP; have HP := HPn; clear HPn; clear hge hg hb) | ((with_reducible refine gate_store (t := 25) (p := 5) rfl ?_); refine ev_store rfl 25 (.tmp 5) (.tmp 11) rfl rfl _ rfl (cells := (c25 s0).toArray) rfl (HP.out.blk 0 rfl) (by rw [List.size_toArray, HSL.out]; kernel_rfl) (by rfl) (c25_one _) ?_; intro w3 hg hgr; have HPn := Aside0.mk (HP.out.setB 0 rfl hgr hg); clear HP; have HP := HPn; clear HPn; clear hg hgr) | ((with_reducible refine gate_dst (N := 18) rfl ?_); refine ev_load rfl 25 (.tmp 5) rfl g_o rfl (HP.out.blk 0 rfl) Try.underlying25 rfl (by rw [List.size_toArray, HSL.out]; kernel_rfl) ?_))
  go_ret
  exact ⟨rfl, HP.out.drop1⟩
set_option maxHeartbeats 8000000 in
set_option maxRecDepth 100000 in
theorem c_loads {w0 w : World} {Rs : List Res} (HP0 : Hp w0 w Rs) (i g : Nat) (S : DS) (hi : Rs[i]? = some (rDisk w0.heap.size g S)) (hok : okD S) (s : SP) (hr : s.root.length = 32) (k : Int) (h : loadE S = 0 ∧ loadK S = k ∧ loadS S = s) :
    Calls Try.prog 25 #[.pointer (some ⟨g, 0, none⟩), .agg (c25 s).toArray, .int .i64 k] w fun e w' => e = .returned (.bool true) ∧ Hp w0 w' Rs := by
  have HP := Aside0.mk HP0
  have CL := Aside0.mk (fun (w : World) (Ra : Res) (HP : Hp w0 w (Ra :: Rs)) => c_load HP (i + 1) g S hi hok)
  rw [h.1, h.2.1, h.2.2] at CL
  have heq := eq25_run s s hr hr rfl
  have HSL := Aside0.mk (c25_len s hr)
  have HS1 := Aside0.mk (c25_one s)
  obtain ⟨cs, hcs⟩ : ∃ z, c25 s = z := ⟨_, rfl⟩
  rw [hcs] at CL HSL HS1 heq ⊢
  clear HP0 hi hok h hcs hr
  go_enter Try.func25, Try.ntmps25
  go_wp2_with (first | ((with_reducible refine gate_dst (N := 4) rfl ?_); refine ev_box rfl 25 (.tmp 1) rfl (cs.toArray) rfl ?_; intro g_s w1 hge hg hb; have HPn := Aside0.mk (HP.out.newB hb hg hge); clear HP; have HP := HPn; clear HPn; clear hge hg hb))
  refine (CL.out _ _ HP.out).mono ?_; rintro e w2 ⟨rfl, hpn⟩
  clear HP
  have HP := Aside0.mk hpn
  clear hpn
  go_wp2_with (first | ((with_reducible refine gate_dst (N := 7) rfl ?_); refine ev_alloc rfl 25 rfl (.agg (c25 s0).toArray) (by kernel_rfl) ?_; intro g_o w3 hge hg hb; have HPn := Aside0.mk (HP.out.newB hb hg hge); clear HP; have HP := HPn; clear HPn; clear hge hg hb) | ((with_reducible refine gate_store (t := 25) (p := 7) rfl ?_); refine ev_store rfl 25 (.tmp 7) (.tmp 13) rfl rfl _ rfl (cells := cs.toArray) rfl (HP.out.blk 0 rfl) (by rw [List.size_toArray, HSL.out]; kernel_rfl) (show (c25 s0).toArray.size = cs.toArray.size from by rw [List.size_toArray, List.size_toArray, HSL.out, c25_len s0 rfl]) HS1.out ?_; intro w4 hg hgr; have HPn := Aside0.mk (HP.out.setB 0 rfl hgr hg); clear HP; have HP := HPn; clear HPn; clear hg hgr) | ((with_reducible refine gate_dst (N := 19) rfl ?_); refine ev_load rfl 25 (.tmp 7) rfl g_o rfl (HP.out.blk 0 rfl) Try.underlying25 rfl (by rw [List.size_toArray, HSL.out]; kernel_rfl) ?_) | ((with_reducible refine gate_dst (N := 20) rfl ?_); refine ev_load rfl 25 (.tmp 4) rfl g_s rfl (HP.out.blk 1 rfl) Try.underlying25 rfl (by rw [List.size_toArray, HSL.out]; kernel_rfl) ?_))
  go_ret
  exact ⟨rfl, HP.out.drop1.drop1⟩
theorem chk1 : chk (ofS 1) = true := by decide
theorem chk2 : chk (ofS 2) = true := by decide
/-- the examples' disk: new, with the first one saved, and with the second one -/
theorem exA : ∃ S1 S2, saveE (newS 4) (ofS 1) = 0 ∧ saveS (newS 4) (ofS 1) = S1 ∧ stt S1 (packS (ofS 1)) s64' ∧ S1.l = [] ∧ saveE S1 (ofS 2) = 0 ∧ saveS S1 (ofS 2) = S2 ∧ stt S2 (packS (ofS 1)) (packS (ofS 2)) ∧ S2.l = [] := by
  obtain ⟨a1, a2, a3⟩ := stt_save stt_new (by decide) (ofS 1) rfl z32_bytes chk1 0 (by rw [best_zz]; rfl) (by rw [best_zz]; decide)
  rw [if_pos rfl, if_neg (by decide)] at a2
  have hbp := best_pz (ofS 1) rfl chk1
  obtain ⟨b1, b2, b3⟩ := stt_save a2 (by rw [a3]; decide) (ofS 2) rfl z32_bytes chk2 1 (by rw [hbp]; rfl) (by
    rw [hbp]
    show ¬ (0 ≤ (0 : Int) ∧ (ofS 2).num ≤ (unpS (packS (ofS 1))).num)
    rw [unpS_pack _ rfl chk1]
    decide)
  rw [if_neg (by decide), if_pos rfl] at b2
  exact ⟨_, _, a1, rfl, a2, a3, b1, rfl, b2, b3⟩
theorem exLate {S1 : DS} (h : stt S1 (packS (ofS 1)) s64') : saveE S1 (ofS 1) = 5 ∧ saveS S1 (ofS 1) = S1 := by
  have hbp := best_pz (ofS 1) rfl chk1
  refine stt_late h (ofS 1) chk1 (.inl hbp) ?_
  rw [hbp]
  show (ofS 1).num ≤ (unpS (packS (ofS 1))).num
  rw [unpS_pack _ rfl chk1]
  decide
theorem exLoad1 {S1 : DS} (h : stt S1 (packS (ofS 1)) s64') : loadE S1 = 0 ∧ loadK S1 = 0 ∧ loadS S1 = ofS 1 := by
  have hbp := best_pz (ofS 1) rfl chk1
  obtain ⟨a, b, c⟩ := stt_load h (.inl hbp)
  rw [hbp] at b c
  exact ⟨a, b, c.trans (unpS_pack _ rfl chk1)⟩
theorem exLoad2 {S2 : DS} (h : stt S2 (packS (ofS 1)) (packS (ofS 2))) : loadE S2 = 0 ∧ loadK S2 = 1 ∧ loadS S2 = ofS 2 := by
  have hbp := best_pp (ofS 1) (ofS 2) rfl chk1 rfl chk2 (by decide)
  obtain ⟨a, b, c⟩ := stt_load h (.inr hbp)
  rw [hbp] at b c
  exact ⟨a, b, c.trans (unpS_pack _ rfl chk2)⟩
theorem exNew : loadE (newS 4) = 6 ∧ loadK (newS 4) = 0 ∧ loadS (newS 4) = s0 := by
  have hb := stt_best stt_new
  rw [best_zz] at hb
  have hs := stt_slots stt_new
  have hbl : blankS (newS 4) = true := by decide
  refine ⟨?_, ?_, ?_⟩
  · unfold loadE; rw [hb, if_neg (by rw [hs]; decide), if_neg (by decide), hbl]; rfl
  · unfold loadK; rw [hb, if_neg (by rw [hs]; decide), if_neg (by decide)]
  · unfold loadS; rw [hb, if_neg (by rw [hs]; decide), if_neg (by decide)]
theorem chkE0 : chkE (ofS 0) = 2 := by decide
set_option maxHeartbeats 8000000 in
set_option maxRecDepth 100000 in
theorem c_awake (w : World) : Calls Try.prog 8 #[] w fun e w' => e = .returned (.bool true) ∧ Below w.heap.size w w' := by
  have HP := Aside0.mk (Hp.start w)
  obtain ⟨S1, S2, e1, e2, e3, e4, e5, e6, e7, e8⟩ := exA
  have HX := Aside0.mk (And.intro (And.intro e1 e2) (And.intro (And.intro e5 e6) (And.intro e3.2.2.2.2.2.1 e7.2.2.2.2.2.1)))
  have HY := Aside0.mk (And.intro (exLate e3) (And.intro (exLoad1 e3) (exLoad2 e7)))
  have HO := Aside0.mk stt_new.2.2.2.2.2.1
  clear e1 e2 e3 e4 e5 e6 e7 e8
  go_enter Try.func8, Try.ntmps8
  go_wp2_with fail
  refine (c_made13 HP.out 4 (by decide) (by decide)).mono ?_; rintro e w1 ⟨g_d, rfl, hpn⟩
  clear HP
  have HP := Aside0.mk hpn
  clear hpn
  go_wp2_with fail
  refine (c_fails HP.out 0 g_d (newS 4) rfl HO.out 6 exNew).mono ?_; rintro e w2 ⟨rfl, hpn⟩
  clear HP
  have HP := Aside0.mk hpn
  clear hpn
  go_wp2_with fail
  refine (c_of 1 _).mono ?_; rintro e w3 ⟨rfl, hb⟩; have HPn := Aside0.mk (HP.out.call hb); clear HP; have HP := HPn; clear HPn; clear hb
  go_wp2_with fail
  have CC := Aside0.mk (c_save HP.out 0 g_d (newS 4) rfl HO.out (ofS 1) rfl)
  rw [HX.out.1.1, HX.out.1.2] at CC
  refine CC.out.mono ?_; rintro e w4 ⟨rfl, hpn⟩
  clear HP CC
  have HP := Aside0.mk hpn
  clear hpn
  go_wp2_with fail
  refine (c_of 1 _).mono ?_; rintro e w5 ⟨rfl, hb⟩; have HPn := Aside0.mk (HP.out.call hb); clear HP; have HP := HPn; clear HPn; clear hb
  go_wp2_with fail
  refine (c_loads HP.out 0 g_d S1 rfl HX.out.2.2.1 (ofS 1) rfl 0 HY.out.2.1).mono ?_; rintro e w6 ⟨rfl, hpn⟩
  clear HP
  have HP := Aside0.mk hpn
  clear hpn
  go_wp2_with fail
  refine (c_of 1 _).mono ?_; rintro e w7 ⟨rfl, hb⟩; have HPn := Aside0.mk (HP.out.call hb); clear HP; have HP := HPn; clear HPn; clear hb
  go_wp2_with fail
  have CC := Aside0.mk (c_save HP.out 0 g_d S1 rfl HX.out.2.2.1 (ofS 1) rfl)
  rw [HY.out.1.1, HY.out.1.2] at CC
  refine CC.out.mono ?_; rintro e w8 ⟨rfl, hpn⟩
  clear HP CC
  have HP := Aside0.mk hpn
  clear hpn
  go_wp2_with fail
  refine (c_of 2 _).mono ?_; rintro e w9 ⟨rfl, hb⟩; have HPn := Aside0.mk (HP.out.call hb); clear HP; have HP := HPn; clear HPn; clear hb
  go_wp2_with fail
  have CC := Aside0.mk (c_save HP.out 0 g_d S1 rfl HX.out.2.2.1 (ofS 2) rfl)
  rw [HX.out.2.1.1, HX.out.2.1.2] at CC
  refine CC.out.mono ?_; rintro e wa ⟨rfl, hpn⟩
  clear HP CC
  have HP := Aside0.mk hpn
  clear hpn
  go_wp2_with fail
  refine (c_of 2 _).mono ?_; rintro e wb ⟨rfl, hb⟩; have HPn := Aside0.mk (HP.out.call hb); clear HP; have HP := HPn; clear HPn; clear hb
  go_wp2_with fail
  refine (c_loads HP.out 0 g_d S2 rfl HX.out.2.2.2 (ofS 2) rfl 1 HY.out.2.2).mono ?_; rintro e wc ⟨rfl, hpn⟩
  clear HP
  have HP := Aside0.mk hpn
  clear hpn
  go_wp2_with fail
  refine (c_of 0 _).mono ?_; rintro e wd ⟨rfl, hb⟩; have HPn := Aside0.mk (HP.out.call hb); clear HP; have HP := HPn; clear HPn; clear hb
  go_wp2_with fail
  have CC := Aside0.mk (fun w => c_check (ofS 0) rfl w)
  rw [chkE0] at CC
  refine (CC.out _).mono ?_; rintro e we ⟨rfl, hb⟩; have HPn := Aside0.mk (HP.out.call hb); clear HP; have HP := HPn; clear HPn; clear hb
  go_wp2_with fail
  go_ret
  exact ⟨rfl, HP.out.below⟩
end Go.Proofs.Ytgflghnbpbiakaa.Su


