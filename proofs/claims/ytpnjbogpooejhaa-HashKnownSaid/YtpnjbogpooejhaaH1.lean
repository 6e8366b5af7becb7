import Derived.Test.YtpnjbogpooejhaaXHgA
import Derived.Test.YtpnjbogpooejhaaXe
import Derived.Test.YtpnjbogpooejhaaXs
import Derived.Deep.RegionHeld3
import Derived.Deep.DrawnRows
import Derived.StillTailTactics
import Derived.Laws.CopyOwn
import Derived.Laws.BitsLemmas
namespace Go.Proofs.Ytpnjbogpooejhaa.H
open Go.RowKit Go.Proofs.Ytpnjbogpooejhaa.XH Go.Proofs.YtpnjbogpooejhaaW.PrintWords Go.Proofs.YtpnjbogpooejhaaW.PrintLast Go.Proofs.YtpnjbogpooejhaaW.PrintMore Go.Proofs.YtpnjbogpooejhaaXe Go.Proofs.YtpnjbogpooejhaaXs
set_option linter.unusedVariables false
set_option linter.unusedSimpArgs false
attribute [local go_sem ↓] Go.wp_at_zero Go.wp_at_succ

theorem i64k {x y : Int} (h : x = y) (hb : -9223372036854775808 ≤ y ∧ y ≤ 9223372036854775807) : IntKind.i64.wrap x = y := by subst h; rw [i64_w]; unfold wrap64; omega
section
variable {w : World} {g : Nat} {l : List Int} {t : TypeId} {k : IntKind}
theorem cellL (hg : w.heap[g]? = some (.cells (l.map (Value.int k)).toArray t (0, 0))) (j : Int) (h0 : 0 ≤ j) (h1 : j < l.length) : w.cell? ⟨g, j.toNat, none⟩ = some (.int k (rd l j)) := by
  have hl : j.toNat < l.length := by omega
  rw [cell_of_row w g _ _ t (0, 0) hg]
  simp [rd, hl]
theorem cellN (hg : w.heap[g]? = some (.cells (l.map (Value.int k)).toArray t (0, 0))) (i : Nat) (h1 : i < l.length) : w.cell? ⟨g, i, none⟩ = some (.int k (rd l i)) := cellL hg (i : Int) (by omega) (by omega)
theorem frozC {cs : Array Value} (hg : w.heap[g]? = some (.cells cs t (0, 0))) (i : Nat) : w.frozen? ⟨g, i, none⟩ = false := by simp [World.frozen?, hg]
theorem setL (l : List Int) (i : Nat) (x : Int) : (l.map (Value.int k)).toArray.setIfInBounds i (.int k x) = ((l.set i x).map (Value.int k)).toArray := by simp [List.map_set]
end
/-- a word turned to the right -/
def rot (x n : Int) : Int := Go.bits .or .u32 (shl .u32 x (32 - n)) (shr .u32 x n)
set_option maxHeartbeats 8000000 in
set_option maxRecDepth 100000 in
theorem c_rot0 (x n : Int) (h1 : 1 ≤ n) (h2 : n ≤ 31) (w : World) : Calls Try.prog 46 #[.int .u32 x, .int .i64 (wrap64 (-n))] w fun e w' => e = .returned (.int .u32 (rot x n)) ∧ w' = w := by
  obtain ⟨m, hm⟩ : ∃ m, 32 - n = m := ⟨_, rfl⟩
  have hb : Go.bits .and .u64 (IntKind.u64.wrap (wrap64 (-n))) 31 = m := by
    subst hm
    have h0 : wrap64 (-n) = -n := by unfold wrap64; omega
    have h3 : IntKind.u64.wrap (-n) = 18446744073709551616 - n := by simp [IntKind.wrap, IntKind.bits, IntKind.signed]; omega
    rw [h0, h3]
    have : ∀ k : Fin 31, Go.bits .and .u64 (18446744073709551616 - ((k.val : Int) + 1)) 31 = 32 - ((k.val : Int) + 1) := by decide +kernel
    have hk := this ⟨(n - 1).toNat, by omega⟩
    have e : (((⟨(n - 1).toNat, by omega⟩ : Fin 31).val : Int) + 1) = n := by show (((n - 1).toNat : Int) + 1) = n; omega
    rw [e] at hk
    exact hk
  have hq : IntKind.u64.wrap (32 - m) = n := by simp [IntKind.wrap, IntKind.bits, IntKind.signed]; omega
  have k1 : 0 ≤ m := by omega
  have k2 : 0 ≤ n := by omega
  have hr : Go.bits .or .u32 (shl .u32 x m) (shr .u32 x n) = rot x n := by subst hm; rfl
  obtain ⟨y1, hy1⟩ : ∃ y, shl .u32 x m = y := ⟨_, rfl⟩
  obtain ⟨y2, hy2⟩ : ∃ y, shr .u32 x n = y := ⟨_, rfl⟩
  have hs1_ : (IntKind.u32.wrap (x * 2 ^ min m.toNat 32)) = y1 := hy1
  have hs1z : m ≤ 32 → (IntKind.u32.wrap (x * 2 ^ m.toNat)) = y1 := shl_small hy1
  have hs2_ : (x / 2 ^ min n.toNat 32) = y2 := hy2
  have hs2z : n ≤ 32 → (x / 2 ^ n.toNat) = y2 := shr_small hy2
  have d1 := decide_eq_true k1
  have d2 := decide_eq_true k2
  have e1 := eq_true k1
  have e2 := eq_true k2
  rw [hy1, hy2] at hr
  clear hy1 hy2
  go_enter Try.func46, Try.ntmps46
  go_wp2
  go_ret
  refine ⟨?_, rfl⟩
  have z1 := hs1z (by omega)
  have z2 := hs2z (by omega)
  rw [IntKind.wrap_u32] at z1
  rw [← hr, ← z1, ← z2]
  rfl
set_option maxHeartbeats 8000000 in
set_option maxRecDepth 100000 in
theorem c_rot (x n : Int) (h1 : 1 ≤ n) (h2 : n ≤ 31) (w : World) : Calls Try.prog 38 #[.int .u32 x, .int .i64 n] w fun e w' => e = .returned (.int .u32 (rot x n)) ∧ w' = w := by
  have hn : IntKind.i64.wrap (-n) = wrap64 (-n) := i64_w _
  go_enter Try.func38, Try.ntmps38
  go_wp2_with (go_at_call 46; refine (c_rot0 x n h1 h2 _).mono ?_; rintro e w' ⟨rfl, rfl⟩)
  go_ret
  exact ⟨rfl, rfl⟩
/-- the constants of the rounds -/
def KW : List Int := [1116352408, 1899447441, 3049323471, 3921009573, 961987163, 1508970993, 2453635748, 2870763221, 3624381080, 310598401, 607225278, 1426881987, 1925078388, 2162078206, 2614888103, 3248222580, 3835390401, 4022224774, 264347078, 604807628, 770255983, 1249150122, 1555081692, 1996064986, 2554220882, 2821834349, 2952996808, 3210313671, 3336571891, 3584528711, 113926993, 338241895, 666307205, 773529912, 1294757372, 1396182291, 1695183700, 1986661051, 2177026350, 2456956037, 2730485921, 2820302411, 3259730800, 3345764771, 3516065817, 3600352804, 4094571909, 275423344, 430227734, 506948616, 659060556, 883997877, 958139571, 1322822218, 1537002063, 1747873779, 1955562222, 2024104815, 2227730452, 2361852424, 2428436474, 2756734187, 3204031479, 3329325298]
def u32s (l : List Int) : List Value := l.map (Value.int .u32)
def u8s (l : List Int) : List Value := l.map (Value.int .u8)
theorem u32s_len (l : List Int) : (u32s l).length = l.length := List.length_map ..
theorem u8s_len (l : List Int) : (u8s l).length = l.length := List.length_map ..
set_option maxHeartbeats 8000000 in
set_option maxRecDepth 100000 in
theorem c_words (w : World) : Calls Try.prog 39 #[] w fun e w' => e = .returned (.agg (u32s KW).toArray) ∧ Below w.heap.size w w' := by
  have HP := Aside0.mk (Hp.start w)
  go_enter Try.func39, Try.ntmps39
  go_wp2_with (first | ((with_reducible refine gate_dst (N := 0) rfl ?_); refine ev_alloc rfl 69 rfl (.agg (u32s (List.replicate 64 0)).toArray) (by kernel_rfl) ?_; intro g_o wn1 hge hg hb; have HPn := Aside0.mk (HP.out.newB hb hg hge); clear HP; have HP := HPn; clear HPn; clear hge hg hb) | ((with_reducible refine gate_store (t := 69) (p := 0) rfl ?_); refine ev_store rfl 69 (.tmp 0) (.tmp 1) rfl rfl _ rfl (cells := (u32s KW).toArray) rfl (HP.out.blk 0 rfl) (by kernel_rfl) (by kernel_rfl) (by kernel_rfl) ?_; intro wn2 hg hgr; have HPn := Aside0.mk (HP.out.setB 0 rfl hgr hg); clear HP; have HP := HPn; clear HPn; clear hg hgr))
  refine bodyPost_ret (results_cell_row rfl _ _ g_o 69 (u32s KW).toArray (0, 0) _ rfl (HP.out.blk 0 rfl) Try.underlying69 rfl (by kernel_rfl)) rfl ?_
  exact ⟨rfl, HP.out.below⟩
end Go.Proofs.Ytpnjbogpooejhaa.H
