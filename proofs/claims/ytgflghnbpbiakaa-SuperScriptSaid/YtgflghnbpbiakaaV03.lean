import Derived.Test.YtgflghnbpbiakaaV02
import Derived.Test.YtgflghnbpbiakaaV01
import Derived.Deep.RegionHeld3
import Derived.Deep.DrawnRows
import Derived.StillTailTactics
import Derived.Laws.CopyOwn
import Derived.Laws.BitsLemmas
import Derived.Test.YtgflghnbpbiakaaV00
namespace Go.Proofs.Ytgflghnbpbiakaa.H
open Go.RowKit Go.Proofs.Ytgflghnbpbiakaa.XH Go.Proofs.YtgflghnbpbiakaaW.PrintWords Go.Proofs.YtgflghnbpbiakaaW.PrintLast Go.Proofs.YtgflghnbpbiakaaW.PrintMore Go.Proofs.YtgflghnbpbiakaaXe Go.Proofs.YtgflghnbpbiakaaXs
set_option linter.unusedVariables false
set_option linter.unusedSimpArgs false
attribute [local go_sem ↓] Go.wp_at_zero Go.wp_at_succ
theorem i64k {x y : Int} (h : x = y) (hb : -9223372036854775808 ≤ y ∧ y ≤ 9223372036854775807) : IntKind.i64.wrap x = y := by subst h; rw [i64_w]; unfold wrap64; omega
section
variable {w : World} {g : Nat} {l : List Int} {t : TypeId} {k : IntKind}
theorem cellL (hg : w.heap[g]? = some (.cells (l.map (Value.int k)).toArray t (0, 0))) (j : Int) (h0 : 0 ≤ j) (h1 : j < l.length) : w.cell? ⟨g, j.toNat, none⟩ = some (.int k (rd l j)) := by
  have hl : j.toNat < l.length := by omega
  rw [cell_of_row w g _ _ t (0, 0) hg]
  simp [rd, hl]
theorem cellN (hg : w.heap[g]? = some (.cells (l.map (Value.int k)).toArray t (0, 0))) (i : Nat) (h1 : i < l.length) : w.cell? ⟨g, i, none⟩ = some (.int k (rd l i)) := cellL hg (i : Int) (by omega) (by omega)
theorem frozC {cs : Array Value} (hg : w.heap[g]? = some (.cells cs t (0, 0))) (i : Nat) : w.frozen? ⟨g, i, none⟩ = false := by simp [World.frozen?, hg]
theorem setL (l : List Int) (i : Nat) (x : Int) : (l.map (Value.int k)).toArray.setIfInBounds i (.int k x) = ((l.set i x).map (Value.int k)).toArray := by simp [List.map_set]
end
/-- a word turned to the right -/
def rot (x n : Int) : Int := Go.bits .or .u32 (shl .u32 x (32 - n)) (shr .u32 x n)
set_option maxHeartbeats 8000000 in
set_option maxRecDepth 100000 in
theorem c_rot0 (x n : Int) (h1 : 1 ≤ n) (h2 : n ≤ 31) (w : World) : Calls Try.prog 85 #[.int .u32 x, .int .i64 (wrap64 (-n))] w fun e w' => e = .returned (.int .u32 (rot x n)) ∧ w' = w := by
  obtain ⟨m, hm⟩ : ∃ m, 32 - n = m := ⟨_, rfl⟩
  have hb : Go.bits .and .u64 (IntKind.u64.wrap (wrap64 (-n))) 31 = m := by
    subst hm
    have h0 : wrap64 (-n) = -n := by unfold wrap64; omega
    have h3 : IntKind.u64.wrap (-n) = 18446744073709551616 - n := by simp [IntKind.wrap, IntKind.bits, IntKind.signed]; omega
    rw [h0, h3]
    have : ∀ k : Fin 31, Go.bits .and .u64 (18446744073709551616 - ((k.val : Int) + 1)) 31 = 32 - ((k.val : Int) + 1) := by decide +kernel
    have hk := this ⟨(n - 1).toNat, by omega⟩
    have e : (((⟨(n - 1).toNat, by omega⟩ : Fin 31).val : Int) + 1) = n := by show (((n - 1).toNat : Int) + 1) = n; omega
    rw [e] at hk
    exact hk
  have hq : IntKind.u64.wrap (32 - m) = n := by simp [IntKind.wrap, IntKind.bits, IntKind.signed]; omega
  have k1 : 0 ≤ m := by omega
  have k2 : 0 ≤ n := by omega
  have hr : Go.bits .or .u32 (shl .u32 x m) (shr .u32 x n) = rot x n := by subst hm; rfl
  obtain ⟨y1, hy1⟩ : ∃ y, shl .u32 x m = y := ⟨_, rfl⟩
  obtain ⟨y2, hy2⟩ : ∃ y, shr .u32 x n = y := ⟨_, rfl⟩
  have hs1_ : (IntKind.u32.wrap (x * 2 ^ min m.toNat 32)) = y1 := hy1
  have hs1z : m ≤ 32 → (IntKind.u32.wrap (x * 2 ^ m.toNat)) = y1 := shl_small hy1
  have hs2_ : (x / 2 ^ min n.toNat 32) = y2 := hy2
  have hs2z : n ≤ 32 → (x / 2 ^ n.toNat) = y2 := shr_small hy2
  have d1 := decide_eq_true k1
  have d2 := decide_eq_true k2
  have e1 := eq_true k1
  have e2 := eq_true k2
  rw [hy1, hy2] at hr
  clear hy1 hy2
  go_enter Try.func85, Try.ntmps85
  go_wp2
  go_ret
  refine ⟨?_, rfl⟩
  have z1 := hs1z (by omega)
  have z2 := hs2z (by omega)
  rw [IntKind.wrap_u32] at z1
  rw [← hr, ← z1, ← z2]
  rfl
set_option maxHeartbeats 8000000 in
set_option maxRecDepth 100000 in
theorem c_rot (x n : Int) (h1 : 1 ≤ n) (h2 : n ≤ 31) (w : World) : Calls Try.prog 80 #[.int .u32 x, .int .i64 n] w fun e w' => e = .returned (.int .u32 (rot x n)) ∧ w' = w := by
  have hn : IntKind.i64.wrap (-n) = wrap64 (-n) := i64_w _
  go_enter Try.func80, Try.ntmps80
  go_wp2_with (go_at_call 85; refine (c_rot0 x n h1 h2 _).mono ?_; rintro e w' ⟨rfl, rfl⟩)
  go_ret
  exact ⟨rfl, rfl⟩
/-- the constants of the rounds -/
def KW : List Int := [1116352408, 1899447441, 3049323471, 3921009573, 961987163, 1508970993, 2453635748, 2870763221, 3624381080, 310598401, 607225278, 1426881987, 1925078388, 2162078206, 2614888103, 3248222580, 3835390401, 4022224774, 264347078, 604807628, 770255983, 1249150122, 1555081692, 1996064986, 2554220882, 2821834349, 2952996808, 3210313671, 3336571891, 3584528711, 113926993, 338241895, 666307205, 773529912, 1294757372, 1396182291, 1695183700, 1986661051, 2177026350, 2456956037, 2730485921, 2820302411, 3259730800, 3345764771, 3516065817, 3600352804, 4094571909, 275423344, 430227734, 506948616, 659060556, 883997877, 958139571, 1322822218, 1537002063, 1747873779, 1955562222, 2024104815, 2227730452, 2361852424, 2428436474, 2756734187, 3204031479, 3329325298]
def u32s (l : List Int) : List Value := l.map (Value.int .u32)
def u8s (l : List Int) : List Value := l.map (Value.int .u8)
theorem u32s_len (l : List Int) : (u32s l).length = l.length := List.length_map ..
theorem u8s_len (l : List Int) : (u8s l).length = l.length := List.length_map ..
set_option maxHeartbeats 8000000 in
set_option maxRecDepth 100000 in
theorem c_words (w : World) : Calls Try.prog 81 #[] w fun e w' => e = .returned (.agg (u32s KW).toArray) ∧ Below w.heap.size w w' := by
  have HP := Aside0.mk (Hp.start w)
  go_enter Try.func81, Try.ntmps81
  go_wp2_with (first | ((with_reducible refine gate_dst (N := 0) rfl ?_); refine ev_alloc rfl 131 rfl (.agg (u32s (List.replicate 64 0)).toArray) (by kernel_rfl) ?_; intro g_o wn1 hge hg hb; have HPn := Aside0.mk (HP.out.newB hb hg hge); clear HP; have HP := HPn; clear HPn; clear hge hg hb) | ((with_reducible refine gate_store (t := 131) (p := 0) rfl ?_); refine ev_store rfl 131 (.tmp 0) (.tmp 1) rfl rfl _ rfl (cells := (u32s KW).toArray) rfl (HP.out.blk 0 rfl) (by kernel_rfl) (by kernel_rfl) (by kernel_rfl) ?_; intro wn2 hg hgr; have HPn := Aside0.mk (HP.out.setB 0 rfl hgr hg); clear HP; have HP := HPn; clear HPn; clear hg hgr))
  refine bodyPost_ret (results_cell_row rfl _ _ g_o 131 (u32s KW).toArray (0, 0) _ rfl (HP.out.blk 0 rfl) Try.underlying131 rfl (by kernel_rfl)) rfl ?_
  exact ⟨rfl, HP.out.below⟩
end Go.Proofs.Ytgflghnbpbiakaa.H
namespace Go.Proofs.Ytgflghnbpbiakaa.H
open Go.RowKit Go.Proofs.Ytgflghnbpbiakaa.XH Go.Proofs.YtgflghnbpbiakaaW.PrintWords Go.Proofs.YtgflghnbpbiakaaW.PrintLast Go.Proofs.YtgflghnbpbiakaaW.PrintMore Go.Proofs.YtgflghnbpbiakaaXe Go.Proofs.YtgflghnbpbiakaaXs
set_option linter.unusedVariables false
set_option linter.unusedSimpArgs false
attribute [local go_sem ↓] Go.wp_at_zero Go.wp_at_succ
section
variable {P : Program} {w wd : World} {id : Nat} {Q : Exit → Act → World → Prop} {a : Act} {l : List Oper}
theorem run_index_arr {P : Program} {w : World} {T e : TypeId} {n : Nat} {k k' : IntKind} {l : List Int} (hu : P.underlying T = some (.array n e)) (he : P.underlying e = some (.int k')) (hs : (P.info? e).map (·.size) = some 1) (hl : l.length = n) (x : Int) (h0 : 0 ≤ x) (h1 : x < n) : (Instr.index T (.agg (l.map (Value.int k)).toArray) (.int .i64 x)).run P w = .ok (.int k (rd l x)) w := by
  obtain ⟨i, hi, hsi⟩ := Option.map_eq_some_iff.1 hs
  have hx : x.toNat < l.length := by omega
  simp [Instr.index, asIntOf, run_underlying hu, h0, h1, sizeOf, typeInfo, hi, hsi, part, run_underlying he, isAgg, rd, hx]
theorem one_u32 (l : List Int) : (u32s l).toArray.all (·.oneCell') = true := by simp [u32s, Value.oneCell']
theorem still_lit (hm : P.follows .mixedOrders = true) (hB : Region.lexB .any l.toArray = true) (hw : w.drew = wd) (h : wpStill P l.toArray wd (fun a' => Q .normal a' wd) l a) : (Code.region id l.toArray true).wp P Q a w := by
  subst hw; exact wp_region_still_lit hm hB h
theorem still_tail (n : Nat) (hm : P.follows .mixedOrders = true) (hB : Region.lexTailB .any l.toArray n = true) (hw : w.drew = wd) (h : wpStill P l.toArray wd (fun a' => wpList P l.toArray Q (l.drop n) a' wd) (l.take n) a) : (Code.region id l.toArray true).wp P Q a w := by
  subst hw; exact wp_region_still_tail n hm hB h
end
/-- word i of a block -/
def word4 (a b c d : Int) : Int := Go.bits .or .u32 (Go.bits .or .u32 (Go.bits .or .u32 (a % 4294967296 * 16777216 % 4294967296) (b % 4294967296 * 65536 % 4294967296)) (c % 4294967296 * 256 % 4294967296)) (d % 4294967296)
def word (b : List Int) (i : Nat) : Int := word4 (rd b (4 * i)) (rd b (4 * i + 1)) (rd b (4 * i + 2)) (rd b (4 * i + 3))
/-- the first i words -/
def w1I (b : List Int) (i : Nat) : List Int := (List.range i).map (word b) ++ List.replicate (64 - i) 0
theorem w1I_len (b : List Int) (i : Nat) (h : i ≤ 64) : (w1I b i).length = 64 := by simp [w1I]; omega
theorem w1I_step (b : List Int) (i : Nat) (h : i < 64) : (w1I b i).set i (word b i) = w1I b (i + 1) := by
  unfold w1I
  obtain ⟨m, hm⟩ : ∃ m, 64 - i = m + 1 := ⟨63 - i, by omega⟩
  have h2 : 64 - (i + 1) = m := by omega
  rw [hm, h2, List.range_succ, List.map_append, List.append_assoc, List.set_append_right _ _ (by simp)]
  simp [List.replicate_succ]
/-- the next word out of those that are there -/
def nextI (x16 p x7 q : Int) : Int := (x16 + Go.bits .xor .u32 (Go.bits .xor .u32 (rot p 7) (rot p 18)) (p / 8) + x7 + Go.bits .xor .u32 (Go.bits .xor .u32 (rot q 17) (rot q 19)) (q / 1024)) % 4294967296
def w2I (b : List Int) : Nat → List Int
  | 0 => w1I b 16
  | j + 1 => (w2I b j).set (j + 16) (nextI (rd (w2I b j) j) (rd (w2I b j) (j + 1)) (rd (w2I b j) (j + 9)) (rd (w2I b j) (j + 14)))
theorem w2I_len (b : List Int) : ∀ j, (w2I b j).length = 64
  | 0 => w1I_len b 16 (by omega)
  | j + 1 => by rw [w2I, List.length_set]; exact w2I_len b j
structure V8 where
  (a b c d e f g h : Int)
/-- the bits of a word, turned over -/
def notI (x : Int) : Int := Go.bits .xor .u32 (if IntKind.u32.signed = true then -1 else IntKind.u32.max) x
/-- the sum of a round -/
def sumI (v : V8) (k w : Int) : Int := IntKind.u32.wrap (IntKind.u32.wrap (IntKind.u32.wrap (IntKind.u32.wrap (v.h + Go.bits .xor .u32 (Go.bits .xor .u32 (rot v.e 6) (rot v.e 11)) (rot v.e 25)) + Go.bits .xor .u32 (Go.bits .and .u32 v.e v.f) (Go.bits .and .u32 (Go.bits .xor .u32 (if IntKind.u32.signed = true then -1 else IntKind.u32.max) v.e) v.g)) + k) + w)
def V8.l (v : V8) : List Int := [v.a, v.b, v.c, v.d, v.e, v.f, v.g, v.h]
/-- a round -/
def rndI (v : V8) (k w : Int) : V8 :=
  ⟨(sumI v k w + (Go.bits .xor .u32 (Go.bits .xor .u32 (rot v.a 2) (rot v.a 13)) (rot v.a 22) + Go.bits .xor .u32 (Go.bits .xor .u32 (Go.bits .and .u32 v.a v.b) (Go.bits .and .u32 v.a v.c)) (Go.bits .and .u32 v.b v.c))) % 4294967296, v.a, v.b, v.c, (v.d + sumI v k w) % 4294967296, v.e, v.f, v.g⟩
def rndsI (v : V8) (ks ws : List Int) : Nat → V8
  | 0 => v
  | j + 1 => rndI (rndsI v ks ws j) (rd ks j) (rd ws j)
def addI (s x : List Int) : Nat → List Int
  | 0 => s
  | j + 1 => (addI s x j).set j ((rd (addI s x j) j + rd x j) % 4294967296)
theorem addI_len (s x : List Int) : ∀ j, (addI s x j).length = s.length
  | 0 => rfl
  | j + 1 => by rw [addI, List.length_set]; exact addI_len s x j
/-- the state behind 64 bytes -/
def behI (v : V8) (b : List Int) : List Int := addI v.l (rndsI v KW (w2I b 48) 64).l 8
set_option maxHeartbeats 8000000 in
set_option maxRecDepth 100000 in
theorem c_beh (s0 s1 s2 s3 s4 s5 s6 s7 : Int) (b : List Int) (hb : b.length = 64) (A : Option Addr) (c : Nat) (w : World) (hr : Kd.C (Kd.int .u8) w A b.length b) (hc : b.length ≤ c) :
    Calls Try.prog 74 #[.agg #[.int .u32 s0, .int .u32 s1, .int .u32 s2, .int .u32 s3, .int .u32 s4, .int .u32 s5, .int .u32 s6, .int .u32 s7], .slice A b.length c] w fun e w' => e = .returned (.agg (u32s (behI ⟨s0, s1, s2, s3, s4, s5, s6, s7⟩ b)).toArray) ∧ Below w.heap.size w w' := by
  have HR := Aside0.mk hr
  have HC := Aside0.mk hc
  have HBL := Aside0.mk hb
  clear hr hc hb
  have HP := Aside0.mk (Hp.start w)
  go_enter Try.func74, Try.ntmps74
  go_wp2_with (first | ((with_reducible refine gate_dst (N := 2) rfl ?_); refine ev_box rfl 121 (.tmp 0) rfl #[.int .u32 s0, .int .u32 s1, .int .u32 s2, .int .u32 s3, .int .u32 s4, .int .u32 s5, .int .u32 s6, .int .u32 s7] rfl ?_; intro g_s wn1 hge hg hb; have HPn := Aside0.mk (HP.out.newB hb hg hge); clear HP; have HP := HPn; clear HPn; clear hge hg hb) | ((with_reducible refine gate_dst (N := 4) rfl ?_); refine ev_alloc rfl 121 rfl (.agg (u32s (List.replicate 8 0)).toArray) (by kernel_rfl) ?_; intro g_o wn2 hge hg hb; have HPn := Aside0.mk (HP.out.newB hb hg hge); clear HP; have HP := HPn; clear HPn; clear hge hg hb) | ((with_reducible refine gate_dst (N := 5) rfl ?_); refine ev_alloc rfl 131 rfl (.agg (u32s (List.replicate 64 0)).toArray) (by kernel_rfl) ?_; intro g_w wn3 hge hg hb; have HPn := Aside0.mk (HP.out.newB hb hg hge); clear HP; have HP := HPn; clear HPn; clear hge hg hb))
  have HP1 := Aside0.mk (show Hp w wn3 [.blk g_w (.cells (u32s (w1I b 0)).toArray 131 (0, 0)), .blk g_o (.cells (u32s (List.replicate 8 0)).toArray 121 (0, 0)), .blk g_s (.cells (u32s [s0, s1, s2, s3, s4, s5, s6, s7]).toArray 121 (0, 0))] from HP.out)
  clear HP
  go_loopg [6, 23] 16 (fun kq v6 v23 w' => ∃ (i : Nat), v23 = .int .i64 i ∧ Aside0 (kq + i = 16) ∧ Aside0 (Hp w w' [.blk g_w (.cells (u32s (w1I b i)).toArray 131 (0, 0)), .blk g_o (.cells (u32s (List.replicate 8 0)).toArray 121 (0, 0)), .blk g_s (.cells (u32s [s0, s1, s2, s3, s4, s5, s6, s7]).toArray 121 (0, 0))]))
  case atStart => exact ⟨0, rfl, ⟨rfl⟩, HP1⟩
  case round =>
    clear HP1
    obtain ⟨i, rfl, HK, HP⟩ := hrel
    by_cases c1 : i < 16
    · have d1 : decide (i < 16) = true := decide_eq_true c1
      have d1i : decide ((i : Int) < 16) = true := decide_eq_true (by omega)
      obtain ⟨y0, hy0⟩ : ∃ y, 4 * (i : Int) = y := ⟨_, rfl⟩
      obtain ⟨y1, hy1⟩ : ∃ y, y0 + 1 = y := ⟨_, rfl⟩
      obtain ⟨y2, hy2⟩ : ∃ y, y0 + 2 = y := ⟨_, rfl⟩
      obtain ⟨y3, hy3⟩ : ∃ y, y0 + 3 = y := ⟨_, rfl⟩
      have e0 := i64k hy0 (by omega)
      have e1 := i64k hy1 (by omega)
      have e2 := i64k hy2 (by omega)
      have e3 := i64k hy3 (by omega)
      have hbl := HBL.out
      have p0 : 0 ≤ y0 := by omega
      have q0 : y0 < (b.length : Int) := by omega
      have p1 : 0 ≤ y1 := by omega
      have q1 : y1 < (b.length : Int) := by omega
      have p2 : 0 ≤ y2 := by omega
      have q2 : y2 < (b.length : Int) := by omega
      have p3 : 0 ≤ y3 := by omega
      have q3 : y3 < (b.length : Int) := by omega
      obtain ⟨wd, hwd⟩ : ∃ z_ : World, wr.drew = z_ := ⟨_, rfl⟩
      have HPd := Aside0.mk (HP.out.drewN 1)
      rw [← World.drew_is_drewN, hwd] at HPd
      have hCd := Kd.C_below HR.out HPd.out.below
      obtain ⟨ad, rfl, hx0⟩ := Kd.at_int hCd y0 p0 q0
      obtain ⟨ad1, e, hx1⟩ := Kd.at_int hCd y1 p1 q1
      cases e
      obtain ⟨ad2, e, hx2⟩ := Kd.at_int hCd y2 p2 q2
      cases e
      obtain ⟨ad3, e, hx3⟩ := Kd.at_int hCd y3 p3 q3
      cases e
      clear hbl hCd
      have HY := Aside0.mk (And.intro hy0 (And.intro hy1 (And.intro hy2 hy3)))
      clear hy0 hy1 hy2 hy3
      have hi64 : i < 64 := by omega
      have hi64' : (i : Int) < 64 := by omega
      have hi0 : (0 : Int) ≤ (i : Int) := by omega
      have hwc : wd.cell? ⟨g_w, i, none⟩ = some (.int .u32 (rd (w1I b i) i)) := cellN (HPd.out.blk 0 rfl) i (by rw [w1I_len b i (by omega)]; omega)
      have hwf := frozC (HPd.out.blk 0 rfl) i
      go_wp2
      refine still_tail 35 (by kernel_rfl) (by kernel_rfl) hwd ?_
      simp only [List.take_succ_cons, List.take_zero, List.drop_succ_cons, List.drop_zero]
      repeat still_step
      refine wpStill_nil ?_
      go_wp2
      have hwd4 : word4 (rd b y0) (rd b y1) (rd b y2) (rd b y3) = word b i := by
        obtain ⟨z0, z1, z2, z3⟩ := HY.out
        unfold word
        rw [← z1, ← z2, ← z3, ← z0]
      have HPn := Aside0.mk (HPd.out.setCell 0 rfl i (.int .u32 (word b i)))
      rw [show (u32s (w1I b i)).toArray.setIfInBounds i (.int .u32 (word b i)) = (u32s (w1I b (i + 1))).toArray from by rw [← w1I_step b i (by omega)]; exact setL (k := .u32) _ _ _] at HPn
      rw [← hwd4] at HPn
      go_roundg (gk - 1)
      case measure => have := HK.out; omega
      case rel => exact ⟨i + 1, by simp, ⟨by have := HK.out; omega⟩, ⟨HPn.out⟩⟩
    · have d1 : decide (i < 16) = false := decide_eq_false c1
      have d1i : decide ((i : Int) < 16) = false := decide_eq_false (by omega)
      obtain rfl : i = 16 := by have := HK.out; omega
      clear c1 d1 d1i HK
      have HP2 := Aside0.mk (show Hp w wr [.blk g_w (.cells (u32s (w2I b 0)).toArray 131 (0, 0)), .blk g_o (.cells (u32s (List.replicate 8 0)).toArray 121 (0, 0)), .blk g_s (.cells (u32s [s0, s1, s2, s3, s4, s5, s6, s7]).toArray 121 (0, 0))] from HP.out)
      clear HP
      go_wp2
      go_loopg [7, 8, 9] 48 (fun kq v7 v8 v9 w' => ∃ (j : Nat) (x : Int), v7 = .int .i64 x ∧ Aside0 (x = (j : Int) + 16) ∧ Aside0 (kq + j = 48) ∧ Aside0 (Hp w w' [.blk g_w (.cells (u32s (w2I b j)).toArray 131 (0, 0)), .blk g_o (.cells (u32s (List.replicate 8 0)).toArray 121 (0, 0)), .blk g_s (.cells (u32s [s0, s1, s2, s3, s4, s5, s6, s7]).toArray 121 (0, 0))]))
      case atStart => exact ⟨0, 16, rfl, ⟨rfl⟩, ⟨rfl⟩, HP2⟩
      clear HP2
      obtain ⟨j, x, rfl, HX, HK, HP⟩ := hrel
      have hx := HX.out
      by_cases c2 : j < 48
      · have d1 : decide (x < 64) = true := decide_eq_true (by omega)
        have px : 0 ≤ x := by omega
        have qx : x < 64 := by omega
        have ex := i64k (x := x + 1) rfl (by omega)
        obtain ⟨ya, hya⟩ : ∃ y, x - 15 = y := ⟨_, rfl⟩
        have eya := i64k hya (by omega)
        have pya : 0 ≤ ya := by omega
        have qya : ya < 64 := by omega
        obtain ⟨yb, hyb⟩ : ∃ y, x - 2 = y := ⟨_, rfl⟩
        have eyb := i64k hyb (by omega)
        have pyb : 0 ≤ yb := by omega
        have qyb : yb < 64 := by omega
        obtain ⟨yc, hyc⟩ : ∃ y, x - 16 = y := ⟨_, rfl⟩
        have eyc := i64k hyc (by omega)
        have pyc : 0 ≤ yc := by omega
        have qyc : yc < 64 := by omega
        obtain ⟨yd, hyd⟩ : ∃ y, x - 7 = y := ⟨_, rfl⟩
        have eyd := i64k hyd (by omega)
        have pyd : 0 ≤ yd := by omega
        have qyd : yd < 64 := by omega
        have HY := Aside0.mk (And.intro hya (And.intro hyb (And.intro hyc hyd)))
        clear hya hyb hyc hyd
        obtain ⟨wd, hwd⟩ : ∃ z_ : World, wr.drew = z_ := ⟨_, rfl⟩
        have HPd := Aside0.mk (HP.out.drewN 1)
        rw [← World.drew_is_drewN, hwd] at HPd
        obtain ⟨we, hwe⟩ : ∃ z_ : World, wd.drew = z_ := ⟨_, rfl⟩
        have HPe := Aside0.mk (HPd.out.drewN 1)
        rw [← World.drew_is_drewN, hwe] at HPe
        have hl := w2I_len b j
        have hca := cellL (HPd.out.blk 0 rfl) ya pya (by rw [hl]; omega)
        have hcb := cellL (HPd.out.blk 0 rfl) yb pyb (by rw [hl]; omega)
        have hcc := cellL (HPe.out.blk 0 rfl) yc pyc (by rw [hl]; omega)
        have hcd := cellL (HPe.out.blk 0 rfl) yd pyd (by rw [hl]; omega)
        have hcx := cellL (HPe.out.blk 0 rfl) x px (by rw [hl]; omega)
        have hfx := frozC (HPe.out.blk 0 rfl) x.toNat
        clear hl hx
        go_wp2
        refine still_lit (by kernel_rfl) (by kernel_rfl) hwd ?_
        repeat still_step
        refine wpStill_nil ?_
        go_wp2
        refine still_tail 29 (by kernel_rfl) (by kernel_rfl) hwe ?_
        simp only [List.take_succ_cons, List.take_zero, List.drop_succ_cons, List.drop_zero]
        still_step
        still_step
        still_step
        still_step
        still_step
        still_step
        still_call (c_rot _ 7 (by decide) (by decide) _)
        still_step
        still_call (c_rot _ 18 (by decide) (by decide) _)
        still_step
        still_step
        still_step
        still_step
        still_step
        still_step
        still_step
        still_step
        still_step
        still_step
        still_step
        still_call (c_rot _ 17 (by decide) (by decide) _)
        still_step
        still_call (c_rot _ 19 (by decide) (by decide) _)
        still_step
        still_step
        still_step
        still_step
        still_step
        still_step
        refine wpStill_nil ?_
        go_wp2
        have hxn : x.toNat = j + 16 := by have := HX.out; omega
        have hnx : nextI (rd (w2I b j) yc) (rd (w2I b j) ya) (rd (w2I b j) yd) (rd (w2I b j) yb) = nextI (rd (w2I b j) j) (rd (w2I b j) (j + 1)) (rd (w2I b j) (j + 9)) (rd (w2I b j) (j + 14)) := by
          obtain ⟨z0, z1, z2, z3⟩ := HY.out
          have := HX.out
          rw [show yc = (j : Int) by omega, show ya = (j : Int) + 1 by omega, show yd = (j : Int) + 9 by omega, show yb = (j : Int) + 14 by omega]
        have HPn := Aside0.mk (HPe.out.setCell 0 rfl (j + 16) (.int .u32 (nextI (rd (w2I b j) j) (rd (w2I b j) (j + 1)) (rd (w2I b j) (j + 9)) (rd (w2I b j) (j + 14)))))
        rw [show (u32s (w2I b j)).toArray.setIfInBounds (j + 16) (.int .u32 (nextI (rd (w2I b j) j) (rd (w2I b j) (j + 1)) (rd (w2I b j) (j + 9)) (rd (w2I b j) (j + 14)))) = (u32s (w2I b (j + 1))).toArray from setL (k := .u32) _ _ _] at HPn
        rw [← hnx, ← hxn] at HPn
        go_roundg (gk - 1)
        case measure => have := HK.out; omega
        case rel => exact ⟨j + 1, x + 1, by simp, ⟨by have := HX.out; omega⟩, ⟨by have := HK.out; omega⟩, ⟨HPn.out⟩⟩
      · have d1 : decide (x < 64) = false := decide_eq_false (by omega)
        obtain rfl : j = 48 := by have := HK.out; omega
        clear c2 hx HX HK
        go_wp2_with (first | ((with_reducible refine gate_dst (N := 103) rfl ?_); refine ev_load rfl 121 (.tmp 2) rfl g_s rfl (HP.out.blk 2 rfl) Try.underlying121 rfl (by kernel_rfl) ?_) | ((with_reducible refine gate_dst (N := 10) rfl ?_); refine ev_alloc rfl 121 rfl (.agg (u32s (List.replicate 8 0)).toArray) (by kernel_rfl) ?_; intro g_x wn6 hge hg hb; have HPn := Aside0.mk (HP.out.newB hb hg hge); clear HP; have HP := HPn; clear HPn; clear hge hg hb) | ((with_reducible refine gate_store (t := 121) (p := 10) rfl ?_); refine ev_store rfl 121 (.tmp 10) (.tmp 103) rfl rfl _ rfl (cells := (u32s [s0, s1, s2, s3, s4, s5, s6, s7]).toArray) rfl (HP.out.blk 0 rfl) (by kernel_rfl) (by kernel_rfl) (by kernel_rfl) ?_; intro wn7 hg hgr; have HPn := Aside0.mk (HP.out.setB 0 rfl hgr hg); clear HP; have HP := HPn; clear HPn; clear hg hgr))
        (with_reducible refine (c_words _).mono ?_); rintro e wn8 ⟨rfl, hb⟩; have HPn := Aside0.mk (HP.out.call hb); clear HP; have HP := HPn; clear HPn; clear hb
        go_wp2_with fail
        go_wp2
        have HP3 := Aside0.mk (show Hp w wn8 [.blk g_x (.cells (u32s [s0, s1, s2, s3, s4, s5, s6, s7]).toArray 121 (0, 0)), .blk g_w (.cells (u32s (w2I b 48)).toArray 131 (0, 0)), .blk g_o (.cells (u32s (List.replicate 8 0)).toArray 121 (0, 0)), .blk g_s (.cells (u32s [s0, s1, s2, s3, s4, s5, s6, s7]).toArray 121 (0, 0))] from HP.out)
        clear HP
        go_loopg [11, 12, 13, 14, 15, 16, 17, 18, 19, 20, 21, 105] 64 (fun kq v11 v12 v13 v14 v15 v16 v17 v18 v19 v20 v21 v105 w' => ∃ (i : Nat) (x : Int) (v : V8), v105 = .int .i64 x ∧ Aside0 (x = (i : Int)) ∧ Aside0 (kq + i = 64) ∧ Aside0 (v = rndsI ⟨s0, s1, s2, s3, s4, s5, s6, s7⟩ KW (w2I b 48) i) ∧ Aside0 (Hp w w' [.blk g_x (.cells (u32s v.l).toArray 121 (0, 0)), .blk g_w (.cells (u32s (w2I b 48)).toArray 131 (0, 0)), .blk g_o (.cells (u32s (List.replicate 8 0)).toArray 121 (0, 0)), .blk g_s (.cells (u32s [s0, s1, s2, s3, s4, s5, s6, s7]).toArray 121 (0, 0))]))
        case atStart => exact ⟨0, 0, ⟨s0, s1, s2, s3, s4, s5, s6, s7⟩, rfl, ⟨rfl⟩, ⟨rfl⟩, ⟨rfl⟩, HP3⟩
        clear HP3
        obtain ⟨i, x, v, rfl, HX, HK, HV, HP⟩ := hrel
        have hx := HX.out
        by_cases c3 : i < 64
        · have d1 : decide (x < 64) = true := decide_eq_true (by omega)
          have px : 0 ≤ x := by omega
          have qx : x < 64 := by omega
          have ex := i64k (x := x + 1) rfl (by omega)
          obtain ⟨wd, hwd⟩ : ∃ z_ : World, wr.drew = z_ := ⟨_, rfl⟩
          have HPd := Aside0.mk (HP.out.drewN 1)
          rw [← World.drew_is_drewN, hwd] at HPd
          obtain ⟨we, hwe⟩ : ∃ z_ : World, wd.drew = z_ := ⟨_, rfl⟩
          have HPe := Aside0.mk (HPd.out.drewN 1)
          rw [← World.drew_is_drewN, hwe] at HPe
          have hl := w2I_len b 48
          have hcw := cellL (HPe.out.blk 1 rfl) x px (by rw [hl]; omega)
          have hc0 : wd.cell? ⟨g_x, 0, none⟩ = some (.int .u32 v.a) := cellN (l := v.l) (HPd.out.blk 0 rfl) 0 (by show 0 < 8; decide)
          have hc1 : wd.cell? ⟨g_x, 1, none⟩ = some (.int .u32 v.b) := cellN (l := v.l) (HPd.out.blk 0 rfl) 1 (by show 1 < 8; decide)
          have hc2 : wd.cell? ⟨g_x, 2, none⟩ = some (.int .u32 v.c) := cellN (l := v.l) (HPd.out.blk 0 rfl) 2 (by show 2 < 8; decide)
          have hc4 : wd.cell? ⟨g_x, 4, none⟩ = some (.int .u32 v.e) := cellN (l := v.l) (HPd.out.blk 0 rfl) 4 (by show 4 < 8; decide)
          have hc5 : wd.cell? ⟨g_x, 5, none⟩ = some (.int .u32 v.f) := cellN (l := v.l) (HPd.out.blk 0 rfl) 5 (by show 5 < 8; decide)
          have hc6 : wd.cell? ⟨g_x, 6, none⟩ = some (.int .u32 v.g) := cellN (l := v.l) (HPd.out.blk 0 rfl) 6 (by show 6 < 8; decide)
          have hc7 : wd.cell? ⟨g_x, 7, none⟩ = some (.int .u32 v.h) := cellN (l := v.l) (HPd.out.blk 0 rfl) 7 (by show 7 < 8; decide)
          have hix : (Instr.index 131 (.agg (u32s KW).toArray) (.int .i64 x)).run Try.prog wr = .ok (.int .u32 (rd KW x)) wr := run_index_arr Try.underlying131 Try.underlying110 (by kernel_rfl) rfl x px qx
          have hd3 : we.cell? ⟨g_x, 3, none⟩ = some (.int .u32 v.d) := cellN (l := v.l) (HPe.out.blk 0 rfl) 3 (by show 3 < 8; decide)
          clear hl hx HP
          have HP := HPe
          go_wp2
          refine still_lit (by kernel_rfl) (by kernel_rfl) hwd ?_
          repeat still_step
          refine wpStill_nil ?_
          go_wp2
          refine still_lit (by kernel_rfl) (by kernel_rfl) hwe ?_
          still_step
          still_step
          still_call (c_rot _ 6 (by decide) (by decide) _)
          still_step
          still_call (c_rot _ 11 (by decide) (by decide) _)
          still_step
          still_step
          still_call (c_rot _ 25 (by decide) (by decide) _)
          still_step
          still_step
          still_step
          still_step
          still_step
          still_step
          still_step
          still_step
          still_step
          still_step
          still_step
          still_step
          still_step
          still_step
          still_step
          still_step
          still_step
          still_step
          refine wpStill_nil ?_
          generalize hT : IntKind.u32.wrap (IntKind.u32.wrap (IntKind.u32.wrap (IntKind.u32.wrap (v.h + Go.bits .xor .u32 (Go.bits .xor .u32 (rot v.e 6) (rot v.e 11)) (rot v.e 25)) + Go.bits .xor .u32 (Go.bits .and .u32 v.e v.f) (Go.bits .and .u32 (Go.bits .xor .u32 (if IntKind.u32.signed = true then -1 else IntKind.u32.max) v.e) v.g)) + rd KW x) + rd (w2I b 48) x) = tv
          have HT := Aside0.mk hT
          clear hT
          go_wp2_with (first | (go_at_call 80; refine (c_rot _ _ (by decide) (by decide) _).mono ?_; rintro e w_ ⟨rfl, rfl⟩) | ((with_reducible refine gate_store (t := 121) (p := 10) rfl ?_); refine ev_store rfl 121 (.tmp 10) (.tmp 181) rfl rfl _ rfl (cells := (u32s (V8.l ⟨(tv + (Go.bits .xor .u32 (Go.bits .xor .u32 (rot v.a 2) (rot v.a 13)) (rot v.a 22) + Go.bits .xor .u32 (Go.bits .xor .u32 (Go.bits .and .u32 v.a v.b) (Go.bits .and .u32 v.a v.c)) (Go.bits .and .u32 v.b v.c))) % 4294967296, v.a, v.b, v.c, (v.d + tv) % 4294967296, v.e, v.f, v.g⟩)).toArray) rfl (HP.out.blk 0 rfl) (by kernel_rfl) (by rfl) (one_u32 _) ?_; intro wn11 hg hgr; have HPn := Aside0.mk (HP.out.setB 0 rfl hgr hg); clear HP; have HP := HPn; clear HPn; clear hg hgr))
          have hrv : (⟨(tv + (Go.bits .xor .u32 (Go.bits .xor .u32 (rot v.a 2) (rot v.a 13)) (rot v.a 22) + Go.bits .xor .u32 (Go.bits .xor .u32 (Go.bits .and .u32 v.a v.b) (Go.bits .and .u32 v.a v.c)) (Go.bits .and .u32 v.b v.c))) % 4294967296, v.a, v.b, v.c, (v.d + tv) % 4294967296, v.e, v.f, v.g⟩ : V8) = rndsI ⟨s0, s1, s2, s3, s4, s5, s6, s7⟩ KW (w2I b 48) (i + 1) := by
            rw [rndsI, ← HV.out, ← HX.out, ← HT.out]; rfl
          go_roundg (gk - 1)
          case measure => have := HK.out; omega
          case rel => exact ⟨i + 1, x + 1, _, by simp, ⟨by have := HX.out; omega⟩, ⟨by have := HK.out; omega⟩, ⟨hrv⟩, ⟨HP.out⟩⟩
        · have d1 : decide (x < 64) = false := decide_eq_false (by omega)
          obtain rfl : i = 64 := by have := HK.out; omega
          clear c3 hx HX HK
          go_wp2
          have HP4 := Aside0.mk (show Hp w wr [.blk g_x (.cells (u32s v.l).toArray 121 (0, 0)), .blk g_w (.cells (u32s (w2I b 48)).toArray 131 (0, 0)), .blk g_o (.cells (u32s (List.replicate 8 0)).toArray 121 (0, 0)), .blk g_s (.cells (u32s [s0, s1, s2, s3, s4, s5, s6, s7]).toArray 121 (0, 0))] from HP.out)
          clear HP
          go_loopg [22, 183] 8 (fun kq v22 v183 w' => ∃ (i : Nat) (x : Int), v183 = .int .i64 x ∧ Aside0 (x = (i : Int)) ∧ Aside0 (kq + i = 8) ∧ Aside0 (Hp w w' [.blk g_x (.cells (u32s v.l).toArray 121 (0, 0)), .blk g_w (.cells (u32s (w2I b 48)).toArray 131 (0, 0)), .blk g_o (.cells (u32s (List.replicate 8 0)).toArray 121 (0, 0)), .blk g_s (.cells (u32s (addI [s0, s1, s2, s3, s4, s5, s6, s7] v.l i)).toArray 121 (0, 0))]))
          case atStart => exact ⟨0, 0, rfl, ⟨rfl⟩, ⟨rfl⟩, HP4⟩
          clear HP4
          obtain ⟨i, x, rfl, HX, HK, HP⟩ := hrel
          have hx := HX.out
          by_cases c4 : i < 8
          · have d1 : decide (x < 8) = true := decide_eq_true (by omega)
            have px : 0 ≤ x := by omega
            have qx : x < 8 := by omega
            have ex := i64k (x := x + 1) rfl (by omega)
            obtain ⟨wd, hwd⟩ : ∃ z_ : World, wr.drew = z_ := ⟨_, rfl⟩
            have HPd := Aside0.mk (HP.out.drewN 1)
            rw [← World.drew_is_drewN, hwd] at HPd
            have hl : (addI [s0, s1, s2, s3, s4, s5, s6, s7] v.l i).length = 8 := addI_len _ _ _
            have hxl : v.l.length = 8 := rfl
            have hcx := cellL (HPd.out.blk 0 rfl) x px (by rw [hxl]; omega)
            have hcs := cellL (HPd.out.blk 3 rfl) x px (by rw [hl]; omega)
            have hfs := frozC (HPd.out.blk 3 rfl) x.toNat
            clear hl hxl hx
            go_wp2
            refine still_tail 8 (by kernel_rfl) (by kernel_rfl) hwd ?_
            simp only [List.take_succ_cons, List.take_zero, List.drop_succ_cons, List.drop_zero]
            repeat still_step
            refine wpStill_nil ?_
            go_wp2
            have hxn : x.toNat = i := by have := HX.out; omega
            have HPn := Aside0.mk (HPd.out.setCell 3 rfl i (.int .u32 ((rd (addI [s0, s1, s2, s3, s4, s5, s6, s7] v.l i) i + rd v.l i) % 4294967296)))
            rw [show (u32s (addI [s0, s1, s2, s3, s4, s5, s6, s7] v.l i)).toArray.setIfInBounds i (.int .u32 ((rd (addI [s0, s1, s2, s3, s4, s5, s6, s7] v.l i) i + rd v.l i) % 4294967296)) = (u32s (addI [s0, s1, s2, s3, s4, s5, s6, s7] v.l (i + 1))).toArray from setL (k := .u32) _ _ _] at HPn
            rw [← HX.out, ← hxn] at HPn
            go_roundg (gk - 1)
            case measure => have := HK.out; omega
            case rel => exact ⟨i + 1, x + 1, by simp, ⟨by have := HX.out; omega⟩, ⟨by have := HK.out; omega⟩, ⟨by rw [hxn] at HPn ⊢; exact HPn.out⟩⟩
          · have d1 : decide (x < 8) = false := decide_eq_false (by omega)
            obtain rfl : i = 8 := by have := HK.out; omega
            clear c4 hx HX HK
            go_wp2_with (first | ((with_reducible refine gate_dst (N := 195) rfl ?_); refine ev_load rfl 121 (.tmp 2) rfl g_s rfl (HP.out.blk 3 rfl) Try.underlying121 rfl (by kernel_rfl) ?_) | ((with_reducible refine gate_store (t := 121) (p := 4) rfl ?_); refine ev_store rfl 121 (.tmp 4) (.tmp 195) rfl rfl _ rfl (cells := (u32s (addI [s0, s1, s2, s3, s4, s5, s6, s7] v.l 8)).toArray) rfl (HP.out.blk 2 rfl) (by rw [List.size_toArray, u32s_len, addI_len]; kernel_rfl) (by rw [List.size_toArray, List.size_toArray, u32s_len, u32s_len, addI_len]; rfl) (one_u32 _) ?_; intro wn21 hg hgr; have HPn := Aside0.mk (HP.out.setB 2 rfl hgr hg); clear HP; have HP := HPn; clear HPn; clear hg hgr))
            refine bodyPost_ret (results_cell_row rfl _ _ g_o 121 (u32s (addI [s0, s1, s2, s3, s4, s5, s6, s7] v.l 8)).toArray (0, 0) _ rfl (HP.out.blk 2 rfl) Try.underlying121 rfl (by kernel_rfl)) rfl ?_
            exact ⟨by rw [HV.out]; rfl, HP.out.below⟩
end Go.Proofs.Ytgflghnbpbiakaa.H
namespace Go.Proofs.Ytgflghnbpbiakaa.H
open Go.RowKit Go.Proofs.Ytgflghnbpbiakaa.XH Go.Proofs.YtgflghnbpbiakaaW.PrintWords Go.Proofs.YtgflghnbpbiakaaW.PrintLast Go.Proofs.YtgflghnbpbiakaaW.PrintMore Go.Proofs.YtgflghnbpbiakaaXe Go.Proofs.YtgflghnbpbiakaaXs
set_option linter.unusedVariables false
set_option linter.unusedSimpArgs false
attribute [local go_sem ↓] Go.wp_at_zero Go.wp_at_succ
section
variable {P : Program} {ops : Array Oper} {Q : Exit → Act → World → Prop} {wd : World} {ds : List Nat} {S : World → Prop}
/-- what is asked of an operation that yields a value in this very world -/
def valUpon (w : World) (o : Oper) (a : Act) (K : Act → Prop) : Result Next → Prop
  | .ok (.value v) w' => w' = w ∧ K (a.put o.dst v)
  | _ => False
def wpVal (P : Program) (ops : Array Oper) (w : World) (Q : Act → Prop) : List Oper → Act → Prop
  | [], a => Q a
  | o :: r, a => if Region.wanted o (yielded ops a.tmps) = true then valUpon w o a (wpVal P ops w Q r) ((execOp a.eval o).run P w) else wpVal P ops w Q r (a.put o.dst undef)
theorem wpVal_step {w : World} {Q : Act → Prop} {o : Oper} {r : List Oper} {a : Act} (h : ∀ K : Act → Prop, (∀ a, wpVal P ops w Q r a → K a) → if Region.wanted o (yielded ops a.tmps) = true then valUpon w o a K ((execOp a.eval o).run P w) else K (a.put o.dst undef)) : wpVal P ops w Q (o :: r) a := h _ fun _ h => h
theorem wpVal_nil {w : World} {Q : Act → Prop} {a : Act} (h : Q a) : wpVal P ops w Q [] a := h
def isMove (o : Oper) : Bool := match o.op with | .move _ => true | _ => false
def tailB (ops : Array Oper) (ds : List Nat) : Nat → Nat → Array Bool → Bool
  | 0, _, l => Region.ready .any ops l == []
  | g + 1, k, l => readyB .any ops l (l.setIfInBounds k true) k && ds.contains k && tailB ops ds g (k + 1) (l.setIfInBounds k true)
def mixB (ops : Array Oper) (ds : List Nat) (g : Nat) : Nat → Nat → Array Bool → Bool
  | 0, k, l => tailB ops ds g k l
  | f + 1, k, l => (takeB .any ops ds l (l.setIfInBounds k true) k || ((ops[k]?).any isMove && anyB .any ops l (l.setIfInBounds k true) k)) && mixB ops ds g f (k + 1) (l.setIfInBounds k true)
theorem mix_tail : ∀ (r : List Oper) (k : Nat) (l : Array Bool) (a : Act) (w : World), (∀ j, j < r.length → r[j]? = ops[k + j]?) → tailB ops ds r.length k l = true → wpList P ops Q r a w → wpAnyLast P .any ops Q S ds r.length l a w
  | [], k, l, a, w, _, hB, h => ⟨by simpa [tailB] using hB, h⟩
  | o :: r, k, l, a, w, hr, hB, h => by
    have h0 : ops[k]? = some o := by simpa using (hr 0 (by simp)).symm
    simp only [List.length_cons, tailB, Bool.and_eq_true] at hB
    obtain ⟨⟨h1, h2⟩, h3⟩ := hB
    simp only [readyB, Bool.and_eq_true, beq_iff_eq] at h1
    have hw : wpOp P ops Q k (wpList P ops Q r) a w := by unfold wpOp; simp only [h0]; exact h
    refine wpAnyLast_all (rs := [k]) h1.1 (by simp) fun i hi => ?_
    obtain rfl : i = k := by simpa using hi
    exact wpOp_mono (fun a' w' hk => ⟨fun hn => absurd (by simpa using h2) hn, mix_tail r (i + 1) _ a' w' (fun j hj => by have := hr (j + 1) (by simp; omega); simpa [Nat.add_assoc, Nat.add_comm 1 j] using this) h3 hk⟩) hw
theorem move_yields {o : Oper} {a : Act} (hm : isMove o = true) : ∃ v, Yields P ops o v a ∧ ∀ (w : World) (K : Act → Prop), (if Region.wanted o (yielded ops a.tmps) = true then valUpon w o a K ((execOp a.eval o).run P w) else K (a.put o.dst undef)) → K (a.put o.dst v) := by
  unfold isMove at hm
  split at hm
  · rename_i x hx
    have hrun : ∀ w, (execOp a.eval o).run P w = .ok (.value (a.eval x)) w := fun w => by simp [execOp, hx]
    by_cases hw : Region.wanted o (yielded ops a.tmps) = true
    · exact ⟨a.eval x, .inl ⟨hw, hrun⟩, fun w K h => by rw [if_pos hw, hrun] at h; exact h.2⟩
    · exact ⟨undef, .inr ⟨by simpa using hw, rfl⟩, fun w K h => by rw [if_neg hw] at h; exact h⟩
  · cases hm
theorem mix_head {Lq : Act → Prop} {g n : Nat} (hQ : ∀ (N : Option Tmp) (v : Value) c a w, Q (.panic c) (a.put N v) w → Q (.panic c) a w) (htail : ∀ l a, tailB ops ds g n l = true → Lq a → wpAnyLast P .any ops Q (· = wd) ds g l a wd) : ∀ (r : List Oper) (k : Nat) (l : Array Bool) (a : Act), k + r.length = n → (∀ j, j < r.length → r[j]? = ops[k + j]?) → mixB ops ds g r.length k l = true → wpVal P ops wd Lq r a → wpAnyLast P .any ops Q (· = wd) ds (r.length + g) l a wd
  | [], k, l, a, hn, _, hB, h => by
    rw [List.length_nil, Nat.zero_add]
    obtain rfl : k = n := by simpa using hn
    exact htail l a hB h
  | o :: r, k, l, a, hn, hr, hB, h => by
    have hn' : k + 1 + r.length = n := by rw [List.length_cons] at hn; omega
    have h0 : ops[k]? = some o := by simpa using (hr 0 (by simp)).symm
    simp only [List.length_cons, mixB, Bool.and_eq_true, Bool.or_eq_true] at hB
    obtain ⟨h1, h2⟩ := hB
    have hr' : ∀ j, j < r.length → r[j]? = ops[k + 1 + j]? := fun j hj => by have := hr (j + 1) (by simp; omega); simpa [Nat.add_assoc, Nat.add_comm 1 j] using this
    rw [List.length_cons, show r.length + 1 + g = (r.length + g) + 1 by omega]
    unfold wpVal at h
    rcases h1 with h1 | h1
    · have hv : ∃ v, YieldsIf P ops (· = wd) o v a ∧ wpVal P ops wd Lq r (a.put o.dst v) := by
        by_cases hw : Region.wanted o (yielded ops a.tmps) = true
        · rw [if_pos hw] at h
          generalize hq : (execOp a.eval o).run P wd = res at h
          unfold valUpon at h
          split at h
          · rename_i v w'
            obtain ⟨rfl, h⟩ := h
            exact ⟨v, .inl ⟨hw, fun w hw' => by subst hw'; exact hq⟩, h⟩
          · exact h.elim
        · rw [if_neg hw] at h
          exact ⟨undef, .inr ⟨by simpa using hw, rfl⟩, h⟩
      obtain ⟨v, hy, h⟩ := hv
      exact take_ (l.setIfInBounds k true) h0 rfl h1 (hQ _ _) hy rfl rfl (mix_head hQ htail r (k + 1) _ _ hn' hr' h2 h)
    · rw [h0] at h1
      obtain ⟨v, hy, hv⟩ := move_yields (P := P) (ops := ops) (a := a) (o := o) (by simpa using h1.1)
      exact pure_ (l.setIfInBounds k true) h0 rfl h1.2 (hQ _ _) hy rfl (mix_head hQ htail r (k + 1) _ _ hn' hr' h2 (hv wd _ h))
/-- a region that draws: the first n operations yield in this very world, the others come one behind the other -/
theorem still_mix {l : List Oper} {id : Nat} {a : Act} {w : World} (n : Nat) (ds : List Nat) (hm : P.follows .mixedOrders = true) (hB : mixB l.toArray ds (l.drop n).length (l.take n).length 0 (Array.replicate l.toArray.size false) = true) (hw : w.drew = wd)
    (hQ : ∀ (N : Option Tmp) (v : Value) c a w, Q (.panic c) (a.put N v) w → Q (.panic c) a w) (h : wpVal P l.toArray wd (fun a' => wpList P l.toArray Q (l.drop n) a' wd) (l.take n) a) : (Code.region id l.toArray true).wp P Q a w := by
  subst hw
  refine wp_region_last (S := (· = w.drew)) (ds := ds) hm ?_
  have hnl : n ≤ l.length ∨ l.length < n := by omega
  have := mix_head (Q := Q) (ops := l.toArray) (P := P) (ds := ds) (wd := w.drew) (g := (l.drop n).length) (n := (l.take n).length) hQ (fun lst a' ht hl => mix_tail (l.drop n) (l.take n).length lst a' w.drew (fun j hj => ?_) ht hl) (l.take n) 0 (Array.replicate l.toArray.size false) a (Nat.zero_add _) (fun j hj => ?_) hB h
  · rw [show (l.take n).length + (l.drop n).length = l.toArray.size by simp; omega] at this
    exact this
  · rw [List.length_drop] at hj
    rw [List.getElem?_drop, List.getElem?_toArray, List.length_take, Nat.min_eq_left (by omega)]
  · rw [List.length_take] at hj
    rw [List.getElem?_take, if_pos (by omega), List.getElem?_toArray, Nat.zero_add]
end
theorem C_ints {w : World} {k : IntKind} {ad : Addr} {l : List Int} (hl : l.length ≤ 9223372036854775807) (h : ∀ j x, l[j]? = some x → w.cell? (ad.add j) = some (.int k x)) : Kd.C (Kd.int k) w (some ad) l.length l := by
  refine ⟨rfl, by simpa using hl, fun _ => ⟨_, rfl, fun j p hj => ?_⟩⟩
  refine ⟨[.int k p], rfl, rfl, fun i u hu => ?_⟩
  cases i with
  | zero =>
    simp at hu
    subst hu
    have h1 := h j p hj
    have h2 : (Kd.int k).sz = 1 := rfl
    simpa [h2] using h1
  | succ i => simp at hu
section
variable {P : Program} {T e : TypeId} {N : Nat}
theorem run_cut_arr (hT : P.underlying T = some (.array N e)) (hs : (P.info? e).map (·.size) = some 1) (g o : Nat) (r : Int) (h0 : 0 ≤ r) (h1 : r < N) (w : World) :
    (Instr.sliceAt T (.pointer (some ⟨g, o, none⟩)) (some (.int .i64 r)) none none).run P w = .ok (.slice (some ⟨g, o + r.toNat, none⟩) (N - r.toNat) (N - r.toNat)) w := by
  obtain ⟨i, hi, hsi⟩ := Option.map_eq_some_iff.1 hs
  have h2 : ¬ (N = r.toNat) := by omega
  have h3 : r ≤ (N : Int) := by omega
  have h4 : ¬ ((N : Int) < r) := by omega
  have h5 : r.toNat ≤ N := by omega
  simp [Instr.sliceAt, Instr.sureAddr, run_underlying hT, Instr.sliceBounds, Instr.sliceBound, asIntOf, h0, h2, h3, h4, h5, sizeOf, typeInfo, hi, hsi, add_at]
theorem run_cut_all (hT : P.underlying T = some (.array N e)) (hs : (P.info? e).map (·.size) = some 1) (hN : 0 < N) (g o : Nat) (w : World) :
    (Instr.sliceAt T (.pointer (some ⟨g, o, none⟩)) none none none).run P w = .ok (.slice (some ⟨g, o, none⟩) N N) w := by
  obtain ⟨i, hi, hsi⟩ := Option.map_eq_some_iff.1 hs
  have h2 : ¬ (N = 0) := by omega
  simp [Instr.sliceAt, Instr.sureAddr, run_underlying hT, Instr.sliceBounds, Instr.sliceBound, asIntOf, h2, sizeOf, typeInfo, hi, hsi, add_at]
theorem run_cut_to (hT : P.underlying T = some (.array N e)) (hs : (P.info? e).map (·.size) = some 1) (hN : 0 < N) (g o : Nat) (r : Int) (h0 : 0 ≤ r) (h1 : r ≤ N) (w : World) :
    (Instr.sliceAt T (.pointer (some ⟨g, o, none⟩)) none (some (.int .i64 r)) none).run P w = .ok (.slice (some ⟨g, o, none⟩) r.toNat N) w := by
  obtain ⟨i, hi, hsi⟩ := Option.map_eq_some_iff.1 hs
  have h2 : ¬ (N = 0) := by omega
  have h4 : ¬ ((N : Int) < r) := by omega
  simp [Instr.sliceAt, Instr.sureAddr, run_underlying hT, Instr.sliceBounds, Instr.sliceBound, asIntOf, h0, h1, h2, h4, sizeOf, typeInfo, hi, hsi, add_at]
end
section
variable {P : Program} {ops : Array Oper} {rest : List Oper} {o : Oper} {a : Act} {Q : Exit → Act → World → Prop} {W w0 : World} {Rs : List Res}
theorem set_self {α : Type} {l : List α} {i : Nat} {x : α} (h : l[i]? = some x) : l.set i x = l := by
  apply List.ext_getElem?
  intro j
  have hi : i < l.length := (List.getElem?_eq_some_iff.1 h).1
  rw [List.getElem?_set]
  split
  · subst_vars
    first | exact h.symm | (rw [if_pos hi, h])
  · rfl
/-- a row within a block is written -/
theorem ev_store_mid (HP : Hp w0 W Rs) (i : Nat) {g off : Nat} {cur : List Value} {t : TypeId} (hi : Rs[i]? = some (.blk g (.cells cur.toArray t (0, 0)))) (hgd : o.guard = none) (hdst : o.dst = none) (ty : TypeId) (x y : Operand) (ho : o.op = .store ty x y)
    (hx : a.eval x = .pointer (some ⟨g, off, none⟩)) {cs : List Value} (hy : a.eval y = .agg cs.toArray) (hfit : off + cs.length ≤ cur.length) (hsz : (P.info? ty).map (·.size) = some cs.length) (h1 : ∀ v ∈ cs, v.oneCell' = true)
    (h : ∀ w1, Hp w0 w1 (Rs.set i (.blk g (.cells (cur.take off ++ cs ++ cur.drop (off + cs.length)).toArray t (0, 0)))) → wpList P ops Q rest a w1) : wpList P ops Q (o :: rest) a W := by
  have hg := HP.blk i hi
  refine wpList_store_mid hgd ty x y ho g off cs.toArray hx hy (fun j hj => ?_) (by simpa using hsz) (all_oneCell_toArray h1) ?_
  · simp only [List.size_toArray] at hj
    refine ⟨by rw [cell_of_row W g _ _ _ _ hg]; simp; omega, frozC hg _⟩
  · rw [hdst]
    obtain ⟨cur', h2, h3, h4⟩ := setCells_row cs off W cur.toArray hg (by simpa using hfit)
    obtain ⟨k1, k2, k3, k4⟩ := setCells_same g cs off W
    refine h _ (HP.setB i hi ⟨k1, k2, k3, by simpa using Nat.le_of_eq k4.symm, fun k _ hk => setCells_far cs off k fun e => hk (by rw [e])⟩ ?_)
    rw [show (cur.take off ++ cs ++ cur.drop (off + cs.length)).toArray = cur' from by apply Array.ext'; simpa using h4.symm]
    simpa using h2
/-- copy into a block -/
theorem ev_copy (HP : Hp w0 W Rs) (i : Nat) {g off : Nat} {cur : List Value} {t : TypeId} (hi : Rs[i]? = some (.blk g (.cells cur.toArray t (0, 0)))) (hgd : o.guard = none) (d s : Operand) (dT sT : TypeId)
    (ho : o.op = .call { callee := .builtin .copy, args := #[d, s], argTypes := #[dT, sT] }) (elem : TypeId) (hu : P.underlying dT = some (.slice elem)) (hsz : (P.info? elem).map (·.size) = some 1)
    (dLen dCap : Nat) (hd : a.eval d = .slice (some ⟨g, off, none⟩) dLen dCap) {A : Option Addr} {m c : Nat} (hs : a.eval s = .slice A m c) {k : IntKind} {l : List Int} (hml : l.length = m) (hC : Kd.C (Kd.int k) W A m l) {cs : List Value} (hcs : cs = (l.take dLen).map (Value.int k)) (hfit : off + cs.length ≤ cur.length) {n : Nat} (hn : cs.length = n)
    (h : ∀ w1, Hp w0 w1 (Rs.set i (.blk g (.cells (splice cur off cs).toArray t (0, 0)))) → wpList P ops Q rest (a.put o.dst (goInt n)) w1) : wpList P ops Q (o :: rest) a W := by
  subst hml hn hcs
  have hg := HP.blk i hi
  by_cases h0 : min l.length dLen = 0
  · have hnil : (l.take dLen).map (Value.int k) = [] := by
      rw [List.map_eq_nil_iff, ← List.length_eq_zero_iff, List.length_take]; omega
    rw [hnil] at h
    refine wpList_copy_nothing hgd d s dT sT ho elem hu hsz (some ⟨g, off, none⟩) A dLen dCap l.length c hd hs h0 ?_
    refine h W ?_
    have e1 : splice cur off [] = cur := by simp [splice]
    rw [e1, set_self hi]
    exact HP
  · have hpos : 0 < l.length := by omega
    obtain ⟨_, _, h3⟩ := hC
    obtain ⟨ad, rfl, h4⟩ := h3 hpos
    refine wpList_copy_own hgd d s dT sT ho elem hu hsz g off dLen dCap ad l.length c hd hs cur.toArray t hg ((l.take dLen).map (Value.int k)) (by simp [Nat.min_comm]) (fun j v hv => ?_) (by simpa using hfit) (fun v hv => ?_) ?_
    · rw [List.getElem?_map, Option.map_eq_some_iff] at hv
      obtain ⟨x, hx, rfl⟩ := hv
      rw [List.getElem?_take] at hx
      split at hx
      · obtain ⟨c1, h5, h6, h7⟩ := h4 j x hx
        have h8 : c1 = [.int k x] := h6
        subst h8
        have h9 := h7 0 _ rfl
        have h2 : (Kd.int k).sz = 1 := rfl
        simpa [h2] using h9
      · cases hx
    · obtain ⟨x, _, rfl⟩ := List.mem_map.1 hv
      rfl
    · refine h _ (HP.setB i hi ⟨rfl, rfl, rfl, by rw [setRow_size]; exact Nat.le_refl _, fun q _ hq => setRow_other W g q _ fun e => hq (by rw [e])⟩ ?_)
      have := setRow_heap W g cur.toArray (cur.toArray.toList.take off ++ ((l.take dLen).map (Value.int k) ++ cur.toArray.toList.drop (off + ((l.take dLen).map (Value.int k)).length))).toArray t (0, 0) hg
      simpa [splice] using this
end
/-- the cells of a digest -/
def dc (m : Bool) (v : V8) (p : List Int) (n : Int) : List Value := .bool m :: (u32s v.l ++ (u8s p ++ [.int .i64 n]))
theorem dc_len (m : Bool) (v : V8) (p : List Int) (n : Int) (hp : p.length = 64) : (dc m v p n).length = 74 := by simp [dc, u32s, u8s, V8.l, hp]
theorem dc_n (m : Bool) (v : V8) (p : List Int) (n n' : Int) (hp : p.length = 64) : (dc m v p n).toArray.setIfInBounds 73 (.int .i64 n') = (dc m v p n').toArray := by
  have : (dc m v p n).set 73 (.int .i64 n') = dc m v p n' := by
    unfold dc V8.l u32s
    simp only [List.map_cons, List.map_nil, List.cons_append, List.nil_append, List.set_cons_succ]
    rw [List.set_append_right _ _ (by simp [u8s, hp]), u8s_len, hp]
    rfl
  simpa using this
theorem dc_p (m : Bool) (v : V8) (p q : List Int) (n : Int) (r : Nat) (hp : p.length = 64) (hq : r + q.length ≤ 64) : splice (dc m v p n) (9 + r) (u8s q) = dc m v (splice p r q) n := by
  have e1 : dc m v p n = (.bool m :: u32s v.l) ++ (u8s p ++ [.int .i64 n]) := by simp [dc]
  have e2 : dc m v (splice p r q) n = (.bool m :: u32s v.l) ++ (u8s (splice p r q) ++ [.int .i64 n]) := by simp [dc]
  have hl : (.bool m :: u32s v.l).length = 9 := by simp [u32s, V8.l]
  rw [e1, e2]
  unfold splice
  rw [List.take_append, List.drop_append, hl, show 9 + r - 9 = r by omega, show 9 + r + (u8s q).length - 9 = r + (u8s q).length by omega, List.take_of_length_le (by omega), List.drop_eq_nil_of_le (by omega), List.nil_append, List.append_assoc]
  congr 1
  rw [List.take_append_of_le_length (by rw [u8s_len]; omega), List.drop_append_of_le_length (by rw [u8s_len, u8s_len]; omega)]
  simp [u8s, List.map_append, List.map_take, List.map_drop]
theorem dc_s (m : Bool) (v v' : V8) (p : List Int) (n : Int) : ((dc m v p n).take 1 ++ u32s v'.l ++ (dc m v p n).drop (1 + (u32s v'.l).length)) = dc m v' p n := by
  simp [dc, u32s, V8.l]
section
variable {w : World} {g : Nat} {m : Bool} {v : V8} {p : List Int} {n : Int}
theorem dc_c0 (hg : w.heap[g]? = some (.cells (dc m v p n).toArray 124 (0, 0))) : w.cell? ⟨g, 0, none⟩ = some (.bool m) := by rw [cell_of_row w g _ _ _ _ hg]; rfl
theorem dc_c73 (hp : p.length = 64) (hg : w.heap[g]? = some (.cells (dc m v p n).toArray 124 (0, 0))) : w.cell? ⟨g, 73, none⟩ = some (.int .i64 n) := by
  rw [cell_of_row w g _ _ _ _ hg]
  unfold dc V8.l u32s
  simp only [List.map_cons, List.map_nil, List.cons_append, List.nil_append, List.getElem?_toArray, List.getElem?_cons_succ]
  rw [List.getElem?_append_right (by rw [u8s_len, hp]; omega), u8s_len, hp]
  rfl
theorem dc_rs (hg : w.heap[g]? = some (.cells (dc m v p n).toArray 124 (0, 0))) : w.rangeAt g 1 (u32s v.l) := fun j u hu => by
  rw [cell_of_row w g _ _ _ _ hg]
  have hj : j < (u32s v.l).length := (List.getElem?_eq_some_iff.1 hu).1
  simp only [dc, List.getElem?_toArray]
  rw [Nat.add_comm, List.getElem?_cons_succ, List.getElem?_append_left hj]
  exact hu
theorem dc_rp (hp : p.length = 64) (hg : w.heap[g]? = some (.cells (dc m v p n).toArray 124 (0, 0))) : Kd.C (Kd.int .u8) w (some ⟨g, 9, none⟩) p.length p := by
  refine C_ints (by omega) fun j x hj => ?_
  have hjl : j < p.length := (List.getElem?_eq_some_iff.1 hj).1
  rw [add_at, cell_of_row w g _ _ _ _ hg]
  have e1 : dc m v p n = (.bool m :: u32s v.l) ++ (u8s p ++ [.int .i64 n]) := by simp [dc]
  have hl : (Value.bool m :: u32s v.l).length = 9 := by simp [u32s, V8.l]
  rw [e1, List.getElem?_toArray, List.getElem?_append_right (by omega), hl, show 9 + j - 9 = j by omega, List.getElem?_append_left (by rw [u8s_len]; omega)]
  simp [u8s, hj]
end
end Go.Proofs.Ytgflghnbpbiakaa.H
namespace Go.Proofs.Ytgflghnbpbiakaa.H
open Go.RowKit Go.Proofs.Ytgflghnbpbiakaa.XH Go.Proofs.YtgflghnbpbiakaaW.PrintWords Go.Proofs.YtgflghnbpbiakaaW.PrintLast Go.Proofs.YtgflghnbpbiakaaW.PrintMore Go.Proofs.YtgflghnbpbiakaaXe Go.Proofs.YtgflghnbpbiakaaXs
set_option linter.unusedVariables false
set_option linter.unusedSimpArgs false
attribute [local go_sem ↓] Go.wp_at_zero Go.wp_at_succ
attribute [local go_sem] valUpon
/-- blocks, one behind the other -/
noncomputable def behV (v : V8) (b : List Int) : V8 := let l := behI v b; ⟨rd l 0, rd l 1, rd l 2, rd l 3, rd l 4, rd l 5, rd l 6, rd l 7⟩
theorem behI_len (v : V8) (b : List Int) : (behI v b).length = 8 := addI_len _ _ _
theorem l8 : ∀ l : List Int, l.length = 8 → V8.l ⟨rd l 0, rd l 1, rd l 2, rd l 3, rd l 4, rd l 5, rd l 6, rd l 7⟩ = l
  | [a, b, c, d, e, f, g, h], _ => rfl
theorem behV_l (v : V8) (b : List Int) : (behV v b).l = behI v b := l8 _ (behI_len v b)
noncomputable def foldB : Nat → V8 → List Int → V8
  | 0, v, _ => v
  | k + 1, v, M => foldB k (behV v (M.take 64)) (M.drop 64)
theorem foldB_app : ∀ (k : Nat) (v : V8) (M X : List Int), 64 * k ≤ M.length → foldB k v (M ++ X) = foldB k v M
  | 0, _, _, _, _ => rfl
  | k + 1, v, M, X, h => by
    rw [foldB, foldB, List.take_append_of_le_length (by omega), List.drop_append_of_le_length (by omega)]
    exact foldB_app k _ _ _ (by rw [List.length_drop]; omega)
theorem foldB_one : ∀ (k : Nat) (v : V8) (M : List Int), 64 * (k + 1) ≤ M.length → foldB (k + 1) v M = behV (foldB k v M) ((M.drop (64 * k)).take 64)
  | 0, v, M, _ => by rw [foldB, foldB, foldB]; simp
  | k + 1, v, M, h => by
    rw [foldB, foldB_one k _ _ (by rw [List.length_drop]; omega), foldB, List.drop_drop]
    rw [show 64 * (k + 1) = 64 + 64 * k by omega]
def H0 : V8 := ⟨1779033703, 3144134277, 1013904242, 2773480762, 1359893119, 2600822924, 528734635, 1541459225⟩
/-- what a digest holds, that was given these bytes -/
structure DigI (v : V8) (p : List Int) (M : List Int) : Prop where
  len : p.length = 64
  st : v = foldB (M.length / 64) H0 M
  part : p.take (M.length % 64) = M.drop (64 * (M.length / 64))
theorem DigI.step {v : V8} {p M q : List Int} (h : DigI v p M) (hq : M.length % 64 + q.length ≤ 64) (hq1 : 0 < q.length) :
    DigI (if (M.length + q.length) % 64 = 0 then behV v (splice p (M.length % 64) q) else v) (splice p (M.length % 64) q) (M ++ q) := by
  have hl := h.len
  have hsl : (splice p (M.length % 64) q).length = 64 := by rw [length_splice _ _ _ (by omega)]; exact hl
  have htk : (splice p (M.length % 64) q).take (M.length % 64 + q.length) = M.drop (64 * (M.length / 64)) ++ q := by
    unfold splice
    rw [← List.append_assoc, List.take_left' (by simp; omega), h.part]
  by_cases hz : (M.length + q.length) % 64 = 0
  · rw [if_pos hz]
    · have e1 : M.length % 64 + q.length = 64 := by omega
      have e2 : (M ++ q).length / 64 = M.length / 64 + 1 := by rw [List.length_append]; omega
      refine ⟨hsl, ?_, ?_⟩
      · rw [e2, foldB_one _ _ _ (by rw [List.length_append]; omega), foldB_app _ _ _ _ (by omega), ← h.st]
        congr 1
        rw [List.drop_append_of_le_length (by omega), ← htk, e1, List.take_of_length_le (by rw [List.length_take]; omega), List.take_of_length_le (by omega)]
      · rw [show (M ++ q).length % 64 = 0 by rw [List.length_append]; omega, e2]
        rw [List.take_zero, List.drop_eq_nil_of_le (by rw [List.length_append]; omega)]
  · rw [if_neg hz]
    have e2 : (M ++ q).length / 64 = M.length / 64 := by rw [List.length_append]; omega
    have e3 : (M ++ q).length % 64 = M.length % 64 + q.length := by rw [List.length_append]; omega
    refine ⟨hsl, ?_, ?_⟩
    · rw [e2, foldB_app _ _ _ _ (by omega)]; exact h.st
    · rw [e3, e2, htk, List.drop_append_of_le_length (by omega)]
set_option maxHeartbeats 8000000 in
set_option maxRecDepth 100000 in
theorem c_absent (g : Nat) (m : Bool) (w : World) (hc : w.cell? ⟨g, 0, none⟩ = some (.bool m)) : Calls Try.prog 73 #[.pointer (some ⟨g, 0, none⟩)] w fun e w' => e = .returned (.bool (!m)) ∧ w' = w := by
  go_enter Try.func73, Try.ntmps73
  go_wp2
  go_ret
  exact ⟨rfl, rfl⟩
theorem one_mem {l : List Int} (x : Value) (hx : x ∈ u32s l) : x.oneCell' = true := by
  obtain ⟨y, _, rfl⟩ := List.mem_map.1 hx
  rfl
theorem cell_in {w : World} {g : Nat} {cs : List Value} {t : TypeId} (hg : w.heap[g]? = some (.cells cs.toArray t (0, 0))) (j : Nat) {x : Value} (hx : cs[j]? = some x) : w.cell? ⟨g, j, none⟩ = some x := by
  rw [cell_of_row w g _ _ _ _ hg]; simpa using hx
set_option maxHeartbeats 8000000 in
set_option maxRecDepth 100000 in
theorem c_write {w0 w : World} {Rs : List Res} (HP : Hp w0 w Rs) (i g : Nat) (v : V8) (p M b : List Int) (hi : Rs[i]? = some (.blk g (.cells (dc true v p (M.length : Int)).toArray 124 (0, 0)))) (hd : DigI v p M) (A : Option Addr) (c : Nat) (hc : b.length ≤ c) (hm : M.length + b.length ≤ 1000000000000000)
    (hb : ∀ (w' : World) (v : V8) (p : List Int) (n : Int), Hp w0 w' (Rs.set i (.blk g (.cells (dc true v p n).toArray 124 (0, 0)))) → Kd.C (Kd.int .u8) w' A b.length b) :
    Calls Try.prog 63 #[.pointer (some ⟨g, 0, none⟩), .slice A b.length c] w fun e w' => e = .returned (.tuple #[]) ∧ ∃ v' p', DigI v' p' (M ++ b) ∧ Hp w0 w' (Rs.set i (.blk g (.cells (dc true v' p' ((M ++ b).length : Int)).toArray 124 (0, 0)))) := by
  have hmade := dc_c0 (HP.blk i hi)
  have HP1 := Aside0.mk (show Hp w0 w (Rs.set i (.blk g (.cells (dc true v p (((M ++ ([] : List Int)).length : Nat) : Int)).toArray 124 (0, 0)))) from by rw [List.append_nil, set_self hi]; exact HP)
  have HC := Aside0.mk hc
  have HM := Aside0.mk hm
  have HB := Aside0.mk hb
  have HD := Aside0.mk (show DigI v p (M ++ []) by rw [List.append_nil]; exact hd)
  have hlt : i < Rs.length := (List.getElem?_eq_some_iff.1 hi).1
  have HI := Aside0.mk hlt
  clear HP hc hm hb hd hi hlt
  go_enter Try.func63, Try.ntmps63
  go_wp2_with fail
  refine (c_absent g true w hmade).mono ?_
  rintro e w_ ⟨rfl, rfl⟩
  go_wp2
  go_loopg [1, 4] b.length (fun kq v1 v4 w' => ∃ (b2 done : List Int) (A2 : Option Addr) (c2 : Nat) (v : V8) (p : List Int), v1 = .slice A2 b2.length c2 ∧ Aside0 (b = done ++ b2) ∧ Aside0 (kq = b2.length) ∧ Aside0 (b2.length ≤ c2) ∧ Aside0 (∀ (w' : World) (v : V8) (p : List Int) (n : Int), Hp w0 w' (Rs.set i (.blk g (.cells (dc true v p n).toArray 124 (0, 0)))) → Kd.C (Kd.int .u8) w' A2 b2.length b2) ∧ Aside0 (DigI v p (M ++ done)) ∧ Aside0 (Hp w0 w' (Rs.set i (.blk g (.cells (dc true v p ((M ++ done).length : Int)).toArray 124 (0, 0))))))
  case atStart => exact ⟨b, [], A, c, v, p, rfl, ⟨rfl⟩, ⟨rfl⟩, HC, HB, HD, HP1⟩
  clear HP1 HD HC HB hmade
  obtain ⟨b2, done, A2, c2, v, p, rfl, HE, HK, HC, HB, HD, HP⟩ := hrel
  by_cases hz : 0 < b2.length
  · have d1 : decide (0 < b2.length) = true := decide_eq_true hz
    have d1i : decide ((0 : Int) < (b2.length : Int)) = true := decide_eq_true (by omega)
    obtain ⟨L, hL⟩ : ∃ L, (M ++ done).length = L := ⟨_, rfl⟩
    rw [hL] at HP
    obtain ⟨r, hr⟩ : ∃ r : Int, (L : Int) % 64 = r := ⟨_, rfl⟩
    have hLM : L + b2.length ≤ 1000000000000000 := by have h1 := HM.out; have h2 := congrArg List.length HE.out; rw [List.length_append] at h2; rw [List.length_append] at hL; omega
    have er : Int.tmod (L : Int) 64 = r := by rw [Int.tmod_eq_emod_of_nonneg (by omega)]; exact hr
    obtain ⟨wd, hwd⟩ : ∃ z_ : World, wr.drew = z_ := ⟨_, rfl⟩
    have HPd := Aside0.mk (HP.out.drewN 1)
    rw [← World.drew_is_drewN, hwd] at HPd
    have hset : ∀ R, (Rs.set i R)[i]? = some R := fun R => by rw [List.getElem?_set]; simp [HI.out]
    have hc73 := dc_c73 HD.out.len (HPd.out.blk i (hset _))
    have h0r : 0 ≤ r := by omega
    have h1r : r < 64 := by omega
    have hcut := run_cut_arr (P := Try.prog) Try.underlying92 (by kernel_rfl) g 9 r h0r h1r wd
    obtain ⟨q, hq⟩ : ∃ q, b2.take (64 - r.toNat) = q := ⟨_, rfl⟩
    have hdr : b2.drop q.length = b2.drop (64 - r.toNat) := by
      rw [← hq, List.length_take]
      rcases Nat.le_total (64 - r.toNat) b2.length with h | h
      · rw [Nat.min_eq_left h]
      · rw [Nat.min_eq_right h, List.drop_eq_nil_of_le (Nat.le_refl _), List.drop_eq_nil_of_le h]
    have hb2 : b2 = q ++ b2.drop q.length := by rw [hdr, ← hq]; exact (List.take_append_drop _ _).symm
    have hql : q.length = min (64 - r.toNat) b2.length := by rw [← hq, List.length_take]
    have hqr : r.toNat + q.length ≤ 64 := by omega
    have hdcl := dc_len true v p (L : Int) HD.out.len
    obtain ⟨kk, hkk⟩ : ∃ kk, q.length = kk := ⟨_, rfl⟩
    obtain ⟨L2, hL2⟩ : ∃ L2, (L : Int) + (kk : Int) = L2 := ⟨_, rfl⟩
    have eL2 := i64k hL2 (by omega)
    obtain ⟨r2, hr2⟩ : ∃ r2 : Int, L2 % 64 = r2 := ⟨_, rfl⟩
    have er2 : Int.tmod L2 64 = r2 := by rw [Int.tmod_eq_emod_of_nonneg (by omega)]; exact hr2
    have hk0 : (0 : Int) ≤ (kk : Int) := by omega
    have hk1 : (kk : Int) ≤ (b2.length : Int) := by omega
    obtain ⟨i5, hi5, _, hsz5, _⟩ := info_parts info5
    have hcutb := cut_from (P := Try.prog) 26 5 .i64 Try.underlying26 hi5 1 hsz5 A2 b2.length c2 (kk : Int) hk0 hk1
    rw [Int.toNat_natCast] at hcutb
    obtain ⟨A3, hA3⟩ : ∃ A3, (if c2 = kk then A2 else A2.map (·.add (kk * 1))) = A3 := ⟨_, rfl⟩
    rw [hA3] at hcutb
    have hlen3 : (b2.drop kk).length = b2.length - kk := List.length_drop ..
    rw [← hlen3] at hcutb
    obtain ⟨c3, hc3⟩ : ∃ c3, c2 - kk = c3 := ⟨_, rfl⟩
    rw [hc3] at hcutb
    have HDN := Aside0.mk (HD.out.step (q := q) (by rw [hL]; omega) (by omega))
    rw [hL, show L % 64 = r.toNat by omega, hkk] at HDN
    have hrz : (L + kk) % 64 = 0 ↔ r2 = 0 := by omega
    have HLN : (M ++ (done ++ q)).length = L + kk := by rw [← List.append_assoc, List.length_append, hL, hkk]
    have HEN : b = (done ++ q) ++ b2.drop kk := by rw [List.append_assoc, ← hkk, ← hb2]; exact HE.out
    have HBN := Aside0.mk (fun (w' : World) (v : V8) (p : List Int) (n : Int) (hp : Hp w0 w' (Rs.set i (.blk g (.cells (dc true v p n).toArray 124 (0, 0))))) => (show Kd.C (Kd.int .u8) w' A3 (b2.drop kk).length (b2.drop kk) from by
      rw [← hA3]; exact Kd.C_drop (m := kk) (c := c2) (HB.out w' v p n hp) (by omega) HC.out))
    have HCN := Aside0.mk (show (b2.drop kk).length ≤ c3 by rw [hlen3, ← hc3]; have := HC.out; omega)
    have HX := Aside0.mk (And.intro hrz (And.intro HLN (And.intro HEN (And.intro hL2 (And.intro hq (And.intro hkk (And.intro hlen3 (And.intro hqr hL))))))))
    have hp2 : (splice p r.toNat q).length = 64 := by rw [length_splice _ _ _ (by rw [HD.out.len]; exact hqr)]; exact HD.out.len
    have HH := Aside0.mk (And.intro h0r (And.intro h1r (And.intro hk0 hk1)))
    have HFIT : 9 + r.toNat + (u8s (b2.take (64 - r.toNat))).length ≤ (dc true v p (L : Int)).length := by rw [u8s_len, hq, hkk, hdcl]; omega
    have HLQ : (u8s (b2.take (64 - r.toNat))).length = kk := by rw [u8s_len, hq, hkk]
    have HF := Aside0.mk (And.intro HFIT HLQ)
    have HP2L := Aside0.mk hp2
    have HSP : splice (dc true v p (L : Int)) (9 + r.toNat) (u8s q) = dc true v (splice p r.toNat q) (L : Int) := dc_p _ _ _ _ _ _ HD.out.len hqr
    have HSQ := Aside0.mk HSP
    have HQ0 := Aside0.mk (show 0 < kk by omega)
    clear hr hrz HLN HEN hL2 hq hkk hlen3 hqr hL hr2 hc3 hA3 hql hb2 hdr hdcl hLM hp2 HFIT HLQ HSP
    go_wp2
    refine still_tail 10 (by kernel_rfl) (by kernel_rfl) hwd ?_
    simp only [List.take_succ_cons, List.take_zero, List.drop_succ_cons, List.drop_zero]
    repeat still_step
    refine wpStill_nil ?_
    refine ev_copy HPd.out i (hset _) rfl (.tmp 18) (.tmp 19) 26 26 rfl 5 Try.underlying26 (by kernel_rfl) (64 - r.toNat) (64 - r.toNat) rfl rfl rfl (HB.out wd v p L HPd.out) rfl HF.out.1 HF.out.2 ?_
    intro w1 HPn
    rw [List.set_set, show (List.take (64 - r.toNat) b2).map (Value.int .u8) = u8s q from by rw [HX.out.2.2.2.2.1]; rfl, HSQ.out] at HPn
    clear hc73
    have hc73 := dc_c73 HP2L.out (HPn.blk i (hset _))
    have hf73 := frozC (HPn.blk i (hset _)) 73
    obtain ⟨w2, hw2⟩ : ∃ w2, w1.setCell ⟨g, 73, none⟩ (.int .i64 L2) = w2 := ⟨_, rfl⟩
    have HPm := Aside0.mk (HPn.setCell i (hset _) 73 (.int .i64 L2))
    rw [List.set_set, dc_n _ _ _ _ _ HP2L.out, hw2] at HPm
    have hd73 := dc_c73 HP2L.out (HPm.out.blk i (hset _))
    by_cases hz2 : r2 = 0
    · subst hz2
      go_wp2
      obtain ⟨we, hwe⟩ : ∃ z_ : World, w2.drew = z_ := ⟨_, rfl⟩
      have HPe := Aside0.mk (HPm.out.drewN 1)
      rw [← World.drew_is_drewN, hwe] at HPe
      obtain ⟨p2, hp2⟩ : ∃ p2, splice p r.toNat q = p2 := ⟨_, rfl⟩
      rw [hp2] at HPe HDN HP2L
      have hq0 : we.cell? ⟨g, 1, none⟩ = some (.int .u32 v.a) := cell_in (HPe.out.blk i (hset _)) 1 rfl
      have hq1 : we.cell? ⟨g, 2, none⟩ = some (.int .u32 v.b) := cell_in (HPe.out.blk i (hset _)) 2 rfl
      have hq2 : we.cell? ⟨g, 3, none⟩ = some (.int .u32 v.c) := cell_in (HPe.out.blk i (hset _)) 3 rfl
      have hq3 : we.cell? ⟨g, 4, none⟩ = some (.int .u32 v.d) := cell_in (HPe.out.blk i (hset _)) 4 rfl
      have hq4 : we.cell? ⟨g, 5, none⟩ = some (.int .u32 v.e) := cell_in (HPe.out.blk i (hset _)) 5 rfl
      have hq5 : we.cell? ⟨g, 6, none⟩ = some (.int .u32 v.f) := cell_in (HPe.out.blk i (hset _)) 6 rfl
      have hq6 : we.cell? ⟨g, 7, none⟩ = some (.int .u32 v.g) := cell_in (HPe.out.blk i (hset _)) 7 rfl
      have hq7 : we.cell? ⟨g, 8, none⟩ = some (.int .u32 v.h) := cell_in (HPe.out.blk i (hset _)) 8 rfl
      have hcut2 := run_cut_all (P := Try.prog) Try.underlying92 (by kernel_rfl) (by decide) g 9 we
      have CB := c_beh v.a v.b v.c v.d v.e v.f v.g v.h p2 HP2L.out (some ⟨g, 9, none⟩) 64 we (dc_rp HP2L.out (HPe.out.blk i (hset _))) (by rw [HP2L.out]; exact Nat.le_refl _)
      rw [HP2L.out] at CB
      have CBA := Aside0.mk CB
      have HP2M := Aside0.mk hp2
      clear CB hc73 hf73 hd73 hp2
      refine still_mix 9 [9, 10, 11, 12] (by kernel_rfl) (by kernel_rfl) hwe (fun N _ _ _ _ h => by cases N <;> exact h) ?_
      simp only [List.take_succ_cons, List.take_zero, List.drop_succ_cons, List.drop_zero]
      repeat (refine wpVal_step (fun K hK => ?_); go_simp; refine hK _ ?_; clear hK K)
      refine wpVal_nil ?_
      go_wp2_with (first | (go_at_call 74; refine CBA.out.mono ?_; rintro e w4 ⟨rfl, hb4⟩; have HPf := Aside0.mk (HPe.out.call hb4); clear hb4) | ((with_reducible refine gate_store (t := 121) (p := 49) rfl ?_); refine ev_store_mid HPf.out i (hset _) rfl rfl 121 (.tmp 49) (.tmp 47) rfl rfl (cs := u32s (behV v p2).l) (by rw [behV_l]; rfl) (by rw [u32s_len, behV_l, behI_len, dc_len _ _ _ _ HP2L.out]; decide) (by rw [u32s_len, behV_l, behI_len]; kernel_rfl) (fun x hx => one_mem x hx) ?_; intro w5 hpg; have HPg := Aside0.mk hpg; clear hpg))
      rw [List.set_set, dc_s] at HPg
      rw [if_pos (HX.out.1.2 (by trivial))] at HDN
      rw [show L2 = (((M ++ (done ++ q)).length : Nat) : Int) from by rw [HX.out.2.1, ← HX.out.2.2.2.1]; omega] at HPg
      rw [List.append_assoc] at HDN
      go_roundg (b2.drop kk).length
      case measure => have := HK.out; have := HX.out.2.2.2.2.2.2.1; have := HQ0.out; omega
      case rel => exact ⟨b2.drop kk, done ++ q, A3, c3, _, _, by rw [HX.out.2.2.2.2.2.2.1], ⟨HX.out.2.2.1⟩, ⟨rfl⟩, HCN, HBN, HDN, HPg⟩
    · have d2 : decide (r2 = 0) = false := decide_eq_false hz2
      go_wp2
      rw [if_neg (fun h => hz2 (HX.out.1.1 h)), List.append_assoc] at HDN
      rw [show L2 = (((M ++ (done ++ q)).length : Nat) : Int) from by rw [HX.out.2.1, ← HX.out.2.2.2.1]; omega] at HPm
      go_roundg (b2.drop kk).length
      case measure => have := HK.out; have := HX.out.2.2.2.2.2.2.1; have := HQ0.out; omega
      case rel => exact ⟨b2.drop kk, done ++ q, A3, c3, _, _, by rw [HX.out.2.2.2.2.2.2.1], ⟨HX.out.2.2.1⟩, ⟨rfl⟩, HCN, HBN, HDN, HPm⟩
  · obtain rfl : b2 = [] := List.eq_nil_of_length_eq_zero (by omega)
    have HE2 := Aside0.mk (show b = done from by have := HE.out; rw [List.append_nil] at this; exact this)
    clear HE
    go_wp2
    exact bodyPost_end (v := .tuple #[]) (by simp [results, Try.results63, go_sem]) rfl ⟨rfl, v, p, by rw [HE2.out]; exact HD.out, by rw [HE2.out]; exact HP.out⟩
end Go.Proofs.Ytgflghnbpbiakaa.H
namespace Go.Proofs.Ytgflghnbpbiakaa.H
open Go.RowKit Go.Proofs.Ytgflghnbpbiakaa.XH Go.Proofs.YtgflghnbpbiakaaW.PrintWords Go.Proofs.YtgflghnbpbiakaaW.PrintLast Go.Proofs.YtgflghnbpbiakaaW.PrintMore Go.Proofs.YtgflghnbpbiakaaXe Go.Proofs.YtgflghnbpbiakaaXs
set_option linter.unusedVariables false
set_option linter.unusedSimpArgs false
attribute [local go_sem ↓] Go.wp_at_zero Go.wp_at_succ
attribute [local go_sem] valUpon
/-- values that are built, whole: opaque for the walks -/
noncomputable def BN124 (parts : Array (Nat × Value)) : Sem Value := Instr.build 124 parts
noncomputable def BN126 (parts : Array (Nat × Value)) : Sem Value := Instr.build 126 parts
noncomputable def BN23 (parts : Array (Nat × Value)) : Sem Value := Instr.build 23 parts
theorem bn124 (parts : Array (Nat × Value)) : Instr.build 124 parts = BN124 parts := rfl
theorem bn126 (parts : Array (Nat × Value)) : Instr.build 126 parts = BN126 parts := rfl
theorem bn23 (parts : Array (Nat × Value)) : Instr.build 23 parts = BN23 parts := rfl
theorem BN124.run (w : World) : (BN124 #[(0, .bool true), (1, .agg (u32s H0.l).toArray)]).run Try.prog w = .ok (.agg (dc true H0 (List.replicate 64 0) 0).toArray) w := by unfold BN124; kernel_rfl
theorem BN126.run (w : World) : (BN126 #[(0, .int .u8 128)]).run Try.prog w = .ok (.agg (u8s (128 :: List.replicate 71 0)).toArray) w := by unfold BN126; kernel_rfl
theorem BN23.run (w : World) : (BN23 #[]).run Try.prog w = .ok (.agg (u8s (List.replicate 32 0)).toArray) w := by unfold BN23; kernel_rfl
attribute [local go_sem ↓ high] bn124 bn126 bn23
attribute [local go_sem high] BN124.run BN126.run BN23.run
set_option maxHeartbeats 8000000 in
set_option maxRecDepth 100000 in
theorem c_first (w : World) : Calls Try.prog 72 #[] w fun e w' => e = .returned (.agg (u32s H0.l).toArray) ∧ Below w.heap.size w w' := hash_first.calls _ _ _ _ _ _ _ _ w rfl
theorem dig0 : DigI H0 (List.replicate 64 0) [] := ⟨by simp, rfl, rfl⟩
set_option maxHeartbeats 8000000 in
set_option maxRecDepth 100000 in
theorem c_new (w : World) : Calls Try.prog 62 #[] w fun e w' => ∃ g, e = .returned (.pointer (some ⟨g, 0, none⟩)) ∧ w.heap.size ≤ g ∧ w'.heap[g]? = some (.cells (dc true H0 (List.replicate 64 0) 0).toArray 124 (0, 0)) ∧ Below w.heap.size w w' := by
  have HP := Aside0.mk (Hp.start w)
  go_enter Try.func62, Try.ntmps62
  go_wp2_with fail
  (with_reducible refine (c_first _).mono ?_); rintro e wn1 ⟨rfl, hb⟩; have HPn := Aside0.mk (HP.out.call hb); clear HP; have HP := HPn; clear HPn; clear hb
  go_wp2_with (first | ((with_reducible refine gate_dst (N := 3) rfl ?_); refine ev_box rfl 124 (.tmp 2) rfl (dc true H0 (List.replicate 64 0) 0).toArray rfl ?_; intro g_d wn2 hge hg hb; have HPn := Aside0.mk (HP.out.newB hb hg hge); clear HP; have HP := HPn; clear HPn; clear hge hg hb))
  exact bodyPost_ret (v := .pointer (some ⟨g_d, 0, none⟩)) (by simp [results, Try.results62, go_sem]) rfl ⟨_, rfl, HP.out.blk_ge 0 rfl, HP.out.blk 0 rfl, HP.out.below⟩
theorem C_blkL {w : World} {g : Nat} {l : List Int} {t : TypeId} {k : IntKind} (hg : w.heap[g]? = some (.cells (l.map (Value.int k)).toArray t (0, 0))) (hl : l.length ≤ 9223372036854775807) : Kd.C (Kd.int k) w (some ⟨g, 0, none⟩) l.length l := by
  refine C_ints hl fun j x hj => ?_
  rw [add_at, cell_of_row w g _ _ _ _ hg]
  simp [hj]
theorem one_u8 (l : List Int) : (u8s l).toArray.all (·.oneCell') = true := by simp [u8s, Value.oneCell']
theorem dc_one (m : Bool) (v : V8) (p : List Int) (n : Int) : (dc m v p n).toArray.all (·.oneCell') = true := by simp [dc, u8s, u32s, V8.l, Value.oneCell']
/-- what is laid behind the bytes -/
def restI (sz : Nat) (lg : Int) : Nat → List Int
  | 0 => 128 :: List.replicate 71 0
  | i + 1 => (restI sz lg i).set (sz + i) (lg / 2 ^ (56 - 8 * i) % 256)
theorem restI_len (sz : Nat) (lg : Int) : ∀ i, (restI sz lg i).length = 72
  | 0 => rfl
  | i + 1 => by rw [restI, List.length_set]; exact restI_len sz lg i
def szI (n : Nat) : Nat := 1 + (119 - n % 64) % 64
def padI (n : Nat) : List Int := (restI (szI n) ((n : Int) * 8) 8).take (szI n + 8)
def byteI (ws : List Int) (j : Nat) : Int := rd ws ((j / 4 : Nat) : Int) / 2 ^ (24 - 8 * (j % 4)) % 256
def outI (ws : List Int) (m : Nat) : List Int := (List.range m).map (byteI ws) ++ List.replicate (32 - m) 0
theorem outI_len (ws : List Int) (m : Nat) (h : m ≤ 32) : (outI ws m).length = 32 := by simp [outI]; omega
theorem outI_step (ws : List Int) (m : Nat) (h : m < 32) : (outI ws m).set m (byteI ws m) = outI ws (m + 1) := by
  unfold outI
  obtain ⟨q, hq⟩ : ∃ q, 32 - m = q + 1 := ⟨31 - m, by omega⟩
  have h2 : 32 - (m + 1) = q := by omega
  rw [hq, h2, List.range_succ, List.map_append, List.append_assoc, List.set_append_right _ _ (by simp)]
  simp [List.replicate_succ]
/-- the digest of bytes -/
noncomputable def sha (M : List Int) : List Int := outI (foldB ((M ++ padI M.length).length / 64) H0 (M ++ padI M.length)).l 32
set_option maxHeartbeats 8000000 in
set_option maxRecDepth 100000 in
theorem c_sum (g : Nat) (v : V8) (p M : List Int) (w : World) (hg : w.heap[g]? = some (.cells (dc true v p (M.length : Int)).toArray 124 (0, 0))) (hd : DigI v p M) (hm : M.length ≤ 100000000000000) :
    Calls Try.prog 64 #[.pointer (some ⟨g, 0, none⟩)] w fun e w' => e = .returned (.agg (u8s (sha M)).toArray) ∧ Below w.heap.size w w' := by
  have HLT := Aside0.mk (blk_lt hg)
  have HG := Aside0.mk hg
  have HPL := Aside0.mk hd.len
  have HD := Aside0.mk hd
  have HP := Aside0.mk (Hp.start w)
  have h0 := dc_c0 hg
  have h73 := dc_c73 HPL.out hg
  obtain ⟨r, hr⟩ : ∃ r : Int, (M.length : Int) % 64 = r := ⟨_, rfl⟩
  have er : Int.tmod (M.length : Int) 64 = r := by rw [Int.tmod_eq_emod_of_nonneg (by omega)]; exact hr
  obtain ⟨y, hy⟩ : ∃ y, 119 - r = y := ⟨_, rfl⟩
  have ey := i64k hy (by omega)
  obtain ⟨z, hz⟩ : ∃ z : Int, y % 64 = z := ⟨_, rfl⟩
  have ez : Int.tmod y 64 = z := by rw [Int.tmod_eq_emod_of_nonneg (by omega)]; exact hz
  obtain ⟨sz, hsz⟩ : ∃ sz, 1 + z = sz := ⟨_, rfl⟩
  have es := i64k hsz (by omega)
  obtain ⟨lg, hlg⟩ : ∃ lg, (M.length : Int) * 8 = lg := ⟨_, rfl⟩
  have eu : IntKind.u64.wrap (M.length : Int) = (M.length : Int) := by simp [IntKind.wrap, IntKind.bits, IntKind.signed]; omega
  have el : IntKind.u64.wrap ((M.length : Int) * 8) = lg := by rw [← hlg]; simp [IntKind.wrap, IntKind.bits, IntKind.signed]; omega
  have HS := Aside0.mk (show sz = (szI M.length : Int) by unfold szI; omega)
  have HLG := Aside0.mk hlg.symm
  have HS1 := Aside0.mk (show 1 ≤ sz ∧ sz ≤ 64 by omega)
  have HLB := Aside0.mk (show 0 ≤ lg by omega)
  have hm0 := Aside0.mk hm
  clear hr hy hz hsz hlg hg hd hm
  go_enter Try.func64, Try.ntmps64
  go_wp2_with (first | ((with_reducible refine gate_dst (N := 2) rfl ?_); refine ev_alloc rfl 23 rfl (.agg (u8s (List.replicate 32 0)).toArray) (by kernel_rfl) ?_; intro g_o wn1 hge hg hb; have HPn := Aside0.mk (HP.out.newB hb hg hge); clear HP; have HP := HPn; clear HPn; clear h0 h73; have h0 := dc_c0 ((HP.out.below.block g HLT.out).trans HG.out); have h73 := dc_c73 HPL.out ((HP.out.below.block g HLT.out).trans HG.out); clear hge hg hb))
  (with_reducible refine (c_absent g true _ h0).mono ?_); rintro e w_ ⟨rfl, rfl⟩
  go_wp2_with (first | ((with_reducible refine gate_dst (N := 17) rfl ?_); refine ev_load rfl 124 (.tmp 16) rfl g rfl ((HP.out.below.block g HLT.out).trans HG.out) Try.underlying124 rfl (by rw [List.size_toArray, dc_len _ _ _ _ HPL.out]; kernel_rfl) ?_) | ((with_reducible refine gate_dst (N := 3) rfl ?_); refine ev_alloc rfl 124 rfl (.agg (dc false ⟨0, 0, 0, 0, 0, 0, 0, 0⟩ (List.replicate 64 0) 0).toArray) (by kernel_rfl) ?_; intro g_x wn2 hge hg hb; have HPn := Aside0.mk (HP.out.newB hb hg hge); clear HP; have HP := HPn; clear HPn; clear h0 h73; have h0 := dc_c0 ((HP.out.below.block g HLT.out).trans HG.out); have h73 := dc_c73 HPL.out ((HP.out.below.block g HLT.out).trans HG.out); clear hge hg hb) | ((with_reducible refine gate_store (t := 124) (p := 3) rfl ?_); refine ev_store rfl 124 (.tmp 3) (.tmp 17) rfl rfl _ rfl (cells := (dc true v p (M.length : Int)).toArray) rfl (HP.out.blk 0 rfl) (by rw [List.size_toArray, dc_len _ _ _ _ HPL.out]; kernel_rfl) (show (dc false ⟨0, 0, 0, 0, 0, 0, 0, 0⟩ (List.replicate 64 0) 0).toArray.size = (dc true v p (M.length : Int)).toArray.size from by rw [List.size_toArray, List.size_toArray, dc_len _ _ _ _ HPL.out]; rfl) (dc_one _ _ _ _) ?_; intro wn3 hg hgr; have HPn := Aside0.mk (HP.out.setB 0 rfl hgr hg); clear HP; have HP := HPn; clear HPn; clear h0 h73; have h0 := dc_c0 ((HP.out.below.block g HLT.out).trans HG.out); have h73 := dc_c73 HPL.out ((HP.out.below.block g HLT.out).trans HG.out); clear hg hgr) | ((with_reducible refine gate_dst (N := 4) rfl ?_); refine ev_alloc rfl 126 rfl (.agg (u8s (List.replicate 72 0)).toArray) (by kernel_rfl) ?_; intro g_r wn4 hge hg hb; have HPn := Aside0.mk (HP.out.newB hb hg hge); clear HP; have HP := HPn; clear HPn; clear h0 h73; have h0 := dc_c0 ((HP.out.below.block g HLT.out).trans HG.out); have h73 := dc_c73 HPL.out ((HP.out.below.block g HLT.out).trans HG.out); clear hge hg hb) | ((with_reducible refine gate_store (t := 126) (p := 4) rfl ?_); refine ev_store rfl 126 (.tmp 4) (.tmp 18) rfl rfl _ rfl (cells := (u8s (128 :: List.replicate 71 0)).toArray) rfl (HP.out.blk 0 rfl) (by kernel_rfl) (by rfl) (one_u8 _) ?_; intro wn5 hg hgr; have HPn := Aside0.mk (HP.out.setB 0 rfl hgr hg); clear HP; have HP := HPn; clear HPn; clear h0 h73; have h0 := dc_c0 ((HP.out.below.block g HLT.out).trans HG.out); have h73 := dc_c73 HPL.out ((HP.out.below.block g HLT.out).trans HG.out); clear hg hgr))
  have HP1 := Aside0.mk (show Hp w wn5 [.blk g_r (.cells (u8s (restI (szI M.length) lg 0)).toArray 126 (0, 0)), .blk g_x (.cells (dc true v p (M.length : Int)).toArray 124 (0, 0)), .blk g_o (.cells (u8s (List.replicate 32 0)).toArray 23 (0, 0))] from HP.out)
  clear HP h0 h73
  go_loopg [7, 33] 8 (fun kq v7 v33 w' => ∃ (i : Nat) (x : Int), v33 = .int .i64 x ∧ Aside0 (x = (i : Int)) ∧ Aside0 (kq + i = 8) ∧ Aside0 (Hp w w' [.blk g_r (.cells (u8s (restI (szI M.length) lg i)).toArray 126 (0, 0)), .blk g_x (.cells (dc true v p (M.length : Int)).toArray 124 (0, 0)), .blk g_o (.cells (u8s (List.replicate 32 0)).toArray 23 (0, 0))]))
  case atStart => exact ⟨0, 0, rfl, ⟨rfl⟩, ⟨rfl⟩, HP1⟩
  case round =>
    clear HP1
    obtain ⟨i, x, rfl, HX, HK, HP⟩ := hrel
    have hx := HX.out
    have hs1 := HS1.out
    by_cases c1 : i < 8
    · have d1 : decide (x < 8) = true := decide_eq_true (by omega)
      have ex := i64k (x := x + 1) rfl (by omega)
      obtain ⟨y1, hy1⟩ : ∃ y, sz + x = y := ⟨_, rfl⟩
      have e1 := i64k hy1 (by omega)
      obtain ⟨y2, hy2⟩ : ∃ y, 8 * x = y := ⟨_, rfl⟩
      have e2 := i64k hy2 (by omega)
      obtain ⟨y3, hy3⟩ : ∃ y, 56 - y2 = y := ⟨_, rfl⟩
      have e3 := i64k hy3 (by omega)
      have p1 : 0 ≤ y1 := by omega
      have q1 : y1 < 72 := by omega
      have p3 : 0 ≤ y3 := by omega
      have dp3 := decide_eq_true p3
      have q3 : y3 ≤ 64 := by omega
      obtain ⟨sv, hsv⟩ : ∃ sv, shr .u64 lg y3 = sv := ⟨_, rfl⟩
      have hsv_ : lg / 2 ^ min y3.toNat 64 = sv := hsv
      have hsvz : y3 ≤ 64 → lg / 2 ^ y3.toNat = sv := shr_small hsv
      have hl := restI_len (szI M.length) lg i
      have hcw := cellL (HP.out.blk 0 rfl) y1 p1 (by rw [hl]; omega)
      have hfw := frozC (HP.out.blk 0 rfl) y1.toNat
      have HY := Aside0.mk (And.intro hy1 (And.intro hy2 (And.intro hy3 (hsvz q3))))
      clear hy1 hy2 hy3 hsv hx hs1 hl
      go_wp2
      have hyn : y1.toNat = szI M.length + i := by have := HY.out.1; have := HX.out; have := HS.out; omega
      have hyv : sv % 256 = lg / 2 ^ (56 - 8 * i) % 256 := by
        obtain ⟨_, z2, z3, z4⟩ := HY.out
        rw [← z4, show y3.toNat = 56 - 8 * i by have := HX.out; omega]
      have HPn := Aside0.mk (HP.out.setCell 0 rfl (szI M.length + i) (.int .u8 (lg / 2 ^ (56 - 8 * i) % 256)))
      rw [show (u8s (restI (szI M.length) lg i)).toArray.setIfInBounds (szI M.length + i) (.int .u8 (lg / 2 ^ (56 - 8 * i) % 256)) = (u8s (restI (szI M.length) lg (i + 1))).toArray from setL (k := .u8) _ _ _] at HPn
      rw [← hyn, ← hyv] at HPn
      go_roundg (gk - 1)
      case measure => have := HK.out; omega
      case rel => exact ⟨i + 1, x + 1, by simp, ⟨by have := HX.out; omega⟩, ⟨by have := HK.out; omega⟩, HPn⟩
    · have d1 : decide (x < 8) = false := decide_eq_false (by omega)
      obtain rfl : i = 8 := by have := HK.out; omega
      obtain ⟨s8, hs8⟩ : ∃ y, sz + 8 = y := ⟨_, rfl⟩
      have e8 := i64k hs8 (by omega)
      have hcut := run_cut_to (P := Try.prog) Try.underlying126 (by kernel_rfl) (by decide) g_r 0 s8 (by omega) (by omega)
      obtain ⟨m8, hm8⟩ : ∃ m8, s8.toNat = m8 := ⟨_, rfl⟩
      rw [hm8] at hcut
      have hpad : (restI (szI M.length) lg 8).take m8 = padI M.length := by unfold padI; rw [HLG.out, show m8 = szI M.length + 8 by have := HS.out; omega]
      have hplen : (padI M.length).length = m8 := by rw [← hpad, List.length_take, restI_len]; omega
      have HPAD := Aside0.mk hpad
      have hmb : M.length + (padI M.length).length ≤ 1000000000000000 := by rw [hplen]; have := hm0.out; omega
      have HPB := Aside0.mk hplen
      have CW := c_write HP.out 1 g_x v p M (padI M.length) rfl HD.out (some ⟨g_r, 0, none⟩) 72 (by rw [hplen]; omega) hmb (fun w' v' p' n' hp => by
        rw [← HPAD.out]
        have h1 : Kd.C (Kd.int .u8) w' (some ⟨g_r, 0, none⟩) (restI (szI M.length) lg 8).length (restI (szI M.length) lg 8) := C_blkL (hp.blk 0 rfl) (by rw [restI_len]; omega)
        exact Kd.C_take (m := m8) h1 (by rw [restI_len]; omega))
      rw [hplen] at CW
      have CWA := Aside0.mk CW
      clear CW hs8 hpad hplen hm8 hmb hx hs1 c1 HX HK
      go_wp2_with fail
      refine CWA.out.mono ?_
      rintro e wn6 ⟨rfl, vv, pp, HD2, hp2⟩
      have HPn := Aside0.mk (show Hp w wn6 [.blk g_r (.cells (u8s (restI (szI M.length) lg 8)).toArray 126 (0, 0)), .blk g_x (.cells (dc true vv pp ((M ++ padI M.length).length : Int)).toArray 124 (0, 0)), .blk g_o (.cells (u8s (List.replicate 32 0)).toArray 23 (0, 0))] from hp2)
      clear HP hp2 CWA
      have HP := HPn
      clear HPn
      go_wp2_with (first | ((with_reducible refine gate_dst (N := 8) rfl ?_); refine ev_alloc rfl 23 rfl (.agg (u8s (List.replicate 32 0)).toArray) (by kernel_rfl) ?_; intro g_b wn7 hge hg hb; have HPn := Aside0.mk (HP.out.newB hb hg hge); clear HP; have HP := HPn; clear HPn; clear hge hg hb) | ((with_reducible refine gate_dst (N := 52) rfl ?_); refine wpList_load_mid rfl 121 (.tmp 51) rfl g_x 1 rfl (u32s vv.l) _ (dc_rs (HP.out.blk 2 rfl)) Try.underlying121 rfl (by kernel_rfl) ?_))
      have HP2 := Aside0.mk (show Hp w wn7 [.blk g_b (.cells (u8s (outI vv.l 0)).toArray 23 (0, 0)), .blk g_r (.cells (u8s (restI (szI M.length) lg 8)).toArray 126 (0, 0)), .blk g_x (.cells (dc true vv pp ((M ++ padI M.length).length : Int)).toArray 124 (0, 0)), .blk g_o (.cells (u8s (List.replicate 32 0)).toArray 23 (0, 0))] from HP.out)
      clear HP
      go_loopg [9, 10, 11, 53, 57] 8 (fun kq v9 v10 v11 v53 v57 w' => ∃ (i : Nat) (x : Int), v53 = .int .i64 x ∧ Aside0 (x = (i : Int)) ∧ Aside0 (kq + i = 8) ∧ Aside0 (Hp w w' [.blk g_b (.cells (u8s (outI vv.l (4 * i))).toArray 23 (0, 0)), .blk g_r (.cells (u8s (restI (szI M.length) lg 8)).toArray 126 (0, 0)), .blk g_x (.cells (dc true vv pp ((M ++ padI M.length).length : Int)).toArray 124 (0, 0)), .blk g_o (.cells (u8s (List.replicate 32 0)).toArray 23 (0, 0))]))
      case atStart => exact ⟨0, 0, rfl, ⟨rfl⟩, ⟨rfl⟩, HP2⟩
      clear HP2
      obtain ⟨i, x, rfl, HX, HK, HP⟩ := hrel
      have hx := HX.out
      by_cases c2 : i < 8
      · have d1 : decide (x < 8) = true := decide_eq_true (by omega)
        have px : 0 ≤ x := by omega
        have qx : x < 8 := by omega
        have ex := i64k (x := x + 1) rfl (by omega)
        have hix : (Instr.index 121 (.agg (u32s vv.l).toArray) (.int .i64 x)).run Try.prog wr = .ok (.int .u32 (rd vv.l x)) wr := run_index_arr Try.underlying121 Try.underlying110 (by kernel_rfl) rfl x px qx
        have HC2 := Aside0.mk c2
        clear hx c2
        go_wp2
        have HPi := Aside0.mk (show Hp w wr [.blk g_b (.cells (u8s (outI vv.l (4 * i + 0))).toArray 23 (0, 0)), .blk g_r (.cells (u8s (restI (szI M.length) lg 8)).toArray 126 (0, 0)), .blk g_x (.cells (dc true vv pp ((M ++ padI M.length).length : Int)).toArray 124 (0, 0)), .blk g_o (.cells (u8s (List.replicate 32 0)).toArray 23 (0, 0))] from HP.out)
        clear HP
        go_loopg [11, 57] 4 (fun kq v11 v57 w' => ∃ (k : Nat) (t : Int), v57 = .int .i64 t ∧ Aside0 (t = (k : Int)) ∧ Aside0 (kq + k = 4) ∧ Aside0 (Hp w w' [.blk g_b (.cells (u8s (outI vv.l (4 * i + k))).toArray 23 (0, 0)), .blk g_r (.cells (u8s (restI (szI M.length) lg 8)).toArray 126 (0, 0)), .blk g_x (.cells (dc true vv pp ((M ++ padI M.length).length : Int)).toArray 124 (0, 0)), .blk g_o (.cells (u8s (List.replicate 32 0)).toArray 23 (0, 0))]))
        case atStart => exact ⟨0, 0, rfl, ⟨rfl⟩, ⟨rfl⟩, HPi⟩
        clear HPi
        obtain ⟨k, t, rfl, HT, HJ, HP⟩ := hrel
        have ht := HT.out
        have hx := HX.out
        have hi8 := HC2.out
        by_cases c3 : k < 4
        · have d2 : decide (t < 4) = true := decide_eq_true (by omega)
          have et := i64k (x := t + 1) rfl (by omega)
          obtain ⟨y0, hy0⟩ : ∃ y, 4 * x = y := ⟨_, rfl⟩
          have e0 := i64k hy0 (by omega)
          obtain ⟨y1, hy1⟩ : ∃ y, y0 + t = y := ⟨_, rfl⟩
          have e1 := i64k hy1 (by omega)
          obtain ⟨y2, hy2⟩ : ∃ y, 8 * t = y := ⟨_, rfl⟩
          have e2 := i64k hy2 (by omega)
          obtain ⟨y3, hy3⟩ : ∃ y, 24 - y2 = y := ⟨_, rfl⟩
          have e3 := i64k hy3 (by omega)
          have p1 : 0 ≤ y1 := by omega
          have q1 : y1 < 32 := by omega
          have p3 : 0 ≤ y3 := by omega
          have dp3 := decide_eq_true p3
          have q3 : y3 ≤ 32 := by omega
          obtain ⟨sv, hsv⟩ : ∃ sv, shr .u32 (rd vv.l x) y3 = sv := ⟨_, rfl⟩
          have hsv_ : rd vv.l x / 2 ^ min y3.toNat 32 = sv := hsv
          have hsvz : y3 ≤ 32 → rd vv.l x / 2 ^ y3.toNat = sv := shr_small hsv
          have hl := outI_len vv.l (4 * i + k) (by omega)
          have hcw := cellL (HP.out.blk 0 rfl) y1 p1 (by rw [hl]; omega)
          have hfw := frozC (HP.out.blk 0 rfl) y1.toNat
          have HY := Aside0.mk (And.intro hy0 (And.intro hy1 (And.intro hy2 (And.intro hy3 (hsvz q3)))))
          have HB4 := Aside0.mk c3
          clear hy0 hy1 hy2 hy3 hsv ht hx hi8 hl c3
          go_wp2
          have hyn : y1.toNat = 4 * i + k := by have := HY.out.1; have := HY.out.2.1; have := HX.out; have := HT.out; omega
          have hyv : sv % 256 = byteI vv.l (4 * i + k) := by
            obtain ⟨_, _, z2, z3, z4⟩ := HY.out
            have h4 := HB4.out
            unfold byteI
            rw [← z4, show (4 * i + k) / 4 = i by omega, show (4 * i + k) % 4 = k by omega, ← HX.out, show y3.toNat = 24 - 8 * k by have := HT.out; omega]
          have HPn := Aside0.mk (HP.out.setCell 0 rfl (4 * i + k) (.int .u8 (byteI vv.l (4 * i + k))))
          rw [show (u8s (outI vv.l (4 * i + k))).toArray.setIfInBounds (4 * i + k) (.int .u8 (byteI vv.l (4 * i + k))) = (u8s (outI vv.l (4 * i + (k + 1)))).toArray from by rw [← Nat.add_assoc, ← outI_step vv.l (4 * i + k) (by have := HC2.out; have := HB4.out; omega)]; exact setL (k := .u8) _ _ _] at HPn
          rw [← hyv, ← hyn] at HPn
          go_roundg (gk - 1)
          case measure => have := HJ.out; have := HB4.out; omega
          case rel => exact ⟨k + 1, t + 1, by simp, ⟨by have := HT.out; omega⟩, ⟨by have := HJ.out; have := HB4.out; omega⟩, HPn⟩
        · have d2 : decide (t < 4) = false := decide_eq_false (by omega)
          obtain rfl : k = 4 := by have := HJ.out; omega
          clear ht hx hi8 c3 HT HJ
          go_wp2
          go_roundg (7 - i)
          case measure => have := HK.out; have := HC2.out; omega
          case rel => exact ⟨i + 1, x + 1, by simp, ⟨by have := HX.out; omega⟩, ⟨by have := HK.out; have := HC2.out; omega⟩, ⟨HP.out⟩⟩
      · have d1 : decide (x < 8) = false := decide_eq_false (by omega)
        obtain rfl : i = 8 := by have := HK.out; omega
        clear hx c2 HX HK
        go_wp2_with (first | ((with_reducible refine gate_dst (N := 73) rfl ?_); refine ev_load rfl 23 (.tmp 8) rfl g_b rfl (HP.out.blk 0 rfl) Try.underlying23 rfl (by rw [List.size_toArray, u8s_len, outI_len _ _ (by omega)]; kernel_rfl) ?_) | ((with_reducible refine gate_store (t := 23) (p := 2) rfl ?_); refine ev_store rfl 23 (.tmp 2) (.tmp 73) rfl rfl _ rfl (cells := (u8s (outI vv.l 32)).toArray) rfl (HP.out.blk 3 rfl) (by rw [List.size_toArray, u8s_len, outI_len _ _ (Nat.le_refl _)]; kernel_rfl) (by rw [List.size_toArray, List.size_toArray, u8s_len, u8s_len, outI_len _ _ (Nat.le_refl _)]; rfl) (one_u8 _) ?_; intro wn31 hg hgr; have HPn := Aside0.mk (HP.out.setB 3 rfl hgr hg); clear HP; have HP := HPn; clear HPn; clear hg hgr))
        refine bodyPost_ret (results_cell_row rfl _ _ g_o 23 (u8s (outI vv.l 32)).toArray (0, 0) _ rfl (HP.out.blk 3 rfl) Try.underlying23 rfl (by rw [List.size_toArray, u8s_len, outI_len _ _ (Nat.le_refl _)]; kernel_rfl)) rfl ?_
        exact ⟨by rw [show sha M = outI vv.l 32 from by unfold sha; rw [HD2.st]], HP.out.below⟩
end Go.Proofs.Ytgflghnbpbiakaa.H
namespace Go.Proofs.Ytgflghnbpbiakaa.H
open Go.RowKit Go.Proofs.Ytgflghnbpbiakaa.XH Go.Proofs.YtgflghnbpbiakaaW.PrintWords Go.Proofs.YtgflghnbpbiakaaW.PrintLast Go.Proofs.YtgflghnbpbiakaaW.PrintMore Go.Proofs.YtgflghnbpbiakaaXe Go.Proofs.YtgflghnbpbiakaaXs
set_option linter.unusedVariables false
set_option linter.unusedSimpArgs false
attribute [local go_sem ↓] Go.wp_at_zero Go.wp_at_succ
attribute [local go_sem] valUpon
attribute [local go_sem ↓ high] bn124 bn126 bn23
attribute [local go_sem high] BN124.run BN126.run BN23.run
theorem sha_len (M : List Int) : (sha M).length = 32 := outI_len _ _ (Nat.le_refl _)
set_option maxHeartbeats 8000000 in
set_option maxRecDepth 100000 in
theorem c_hsum (A : Option Addr) (c : Nat) (b : List Int) (w : World) (hr : Kd.C (Kd.int .u8) w A b.length b) (hc : b.length ≤ c) (hm : b.length ≤ 100000000000000) :
    Calls Try.prog 40 #[.slice A b.length c] w fun e w' => e = .returned (.agg (u8s (sha b)).toArray) ∧ Below w.heap.size w w' := by
  have HR := Aside0.mk hr
  have HC := Aside0.mk hc
  have HM2 := Aside0.mk hm
  have HM1 := Aside0.mk (show ([] : List Int).length + b.length ≤ 1000000000000000 by simp; omega)
  have HP := Aside0.mk (Hp.start w)
  clear hr hc hm
  go_enter Try.func40, Try.ntmps40
  go_wp2_with (first | ((with_reducible refine gate_dst (N := 2) rfl ?_); refine ev_alloc rfl 23 rfl (.agg (u8s (List.replicate 32 0)).toArray) (by kernel_rfl) ?_; intro g_o wn1 hge hg hb; have HPn := Aside0.mk (HP.out.newB hb hg hge); clear HP; have HP := HPn; clear HPn; clear hge hg hb))
  (with_reducible refine (c_new _).mono ?_); rintro e wn2 ⟨g, rfl, hge, hg, hb⟩; have HPn := Aside0.mk (HP.out.newB hb hg hge); clear HP hge hg hb; have HP := HPn; clear HPn
  go_wp2_with fail
  refine (c_write HP.out 0 g H0 _ [] b rfl dig0 A c HC.out HM1.out (fun w1 v1 p1 n1 hp => Kd.C_below HR.out hp.below)).mono ?_; rintro e wn3 ⟨rfl, vv, pp, hd, hp⟩; rw [List.nil_append] at hd hp; have HPn := Aside0.mk (show Hp w wn3 [.blk g (.cells (dc true vv pp (b.length : Int)).toArray 124 (0, 0)), .blk g_o (.cells (u8s (List.replicate 32 0)).toArray 23 (0, 0))] from hp); have HD := Aside0.mk hd; clear HP hd hp; have HP := HPn; clear HPn
  go_wp2_with fail
  refine (c_sum g vv pp b _ (HP.out.blk 0 rfl) HD.out HM2.out).mono ?_; rintro e wn4 ⟨rfl, hb⟩; have HPn := Aside0.mk (HP.out.call hb); clear HP hb; have HP := HPn; clear HPn
  go_wp2_with (first | ((with_reducible refine gate_store (t := 23) (p := 2) rfl ?_); refine ev_store rfl 23 (.tmp 2) (.tmp 9) rfl rfl _ rfl (cells := (u8s (sha b)).toArray) rfl (HP.out.blk 1 rfl) (by rw [List.size_toArray, u8s_len, sha_len]; kernel_rfl) (by rw [List.size_toArray, List.size_toArray, u8s_len, u8s_len, sha_len]; rfl) (one_u8 _) ?_; intro wn5 hg hgr; have HPn := Aside0.mk (HP.out.setB 1 rfl hgr hg); clear HP; have HP := HPn; clear HPn; clear hg hgr))
  refine bodyPost_ret (results_cell_row rfl _ _ g_o 23 (u8s (sha b)).toArray (0, 0) _ rfl (HP.out.blk 1 rfl) Try.underlying23 rfl (by rw [List.size_toArray, u8s_len, sha_len]; kernel_rfl)) rfl ?_
  exact ⟨rfl, HP.out.below⟩
end Go.Proofs.Ytgflghnbpbiakaa.H
namespace Go.Proofs.Ytgflghnbpbiakaa.H
open Go.RowKit Go.Proofs.Ytgflghnbpbiakaa.XH Go.Proofs.YtgflghnbpbiakaaW.PrintWords Go.Proofs.YtgflghnbpbiakaaW.PrintLast Go.Proofs.YtgflghnbpbiakaaW.PrintMore Go.Proofs.YtgflghnbpbiakaaXe Go.Proofs.YtgflghnbpbiakaaXs
set_option linter.unusedVariables false
set_option linter.unusedSimpArgs false
attribute [local go_sem ↓] Go.wp_at_zero Go.wp_at_succ
attribute [local go_sem] valUpon
attribute [local go_sem ↓ high] bn124 bn126 bn23
attribute [local go_sem high] BN124.run BN126.run BN23.run
/-- bytes -/
def Bytes (l : List Int) : Prop := ∀ x ∈ l, 0 ≤ x ∧ x < 256
theorem Bytes.rd {l : List Int} (h : Bytes l) (i : Int) : 0 ≤ rd l i ∧ rd l i < 256 := by
  unfold Go.Proofs.YtgflghnbpbiakaaW.PrintWords.rd
  by_cases hi : i.toNat < l.length
  · rw [List.getD_eq_getElem?_getD, List.getElem?_eq_getElem hi]; exact h _ (List.getElem_mem hi)
  · rw [List.getD_eq_getElem?_getD, List.getElem?_eq_none (by omega)]; decide
theorem r_f (x n : Int) (h1 : 1 ≤ n) (h2 : n ≤ 31) : retconref02_r.f x n = some (rot x n) := by
  have h : wrap64 (32 - n) = 32 - n := by unfold wrap64; omega
  unfold retconref02_r.f
  rw [h, if_pos (by omega), if_pos (by omega)]
  rfl
theorem lowP_f (x : Int) : retconref02_lowerP.f x = some (Go.bits .xor .u32 (Go.bits .xor .u32 (rot x 7) (rot x 18)) (x / 8)) := by
  unfold retconref02_lowerP.f
  rw [r_f x 7 (by decide) (by decide), r_f x 18 (by decide) (by decide)]; rfl
theorem lowQ_f (x : Int) : retconref02_lowerQ.f x = some (Go.bits .xor .u32 (Go.bits .xor .u32 (rot x 17) (rot x 19)) (x / 1024)) := by
  unfold retconref02_lowerQ.f
  rw [r_f x 17 (by decide) (by decide), r_f x 19 (by decide) (by decide)]; rfl
theorem upE_f (x : Int) : retconref02_upperE.f x = some (Go.bits .xor .u32 (Go.bits .xor .u32 (rot x 6) (rot x 11)) (rot x 25)) := by
  unfold retconref02_upperE.f
  rw [r_f x 6 (by decide) (by decide), r_f x 11 (by decide) (by decide), r_f x 25 (by decide) (by decide)]; rfl
theorem upA_f (x : Int) : retconref02_upperA.f x = some (Go.bits .xor .u32 (Go.bits .xor .u32 (rot x 2) (rot x 13)) (rot x 22)) := by
  unfold retconref02_upperA.f
  rw [r_f x 2 (by decide) (by decide), r_f x 13 (by decide) (by decide), r_f x 22 (by decide) (by decide)]; rfl
theorem wraps_u32 (n : Int) (h0 : 0 ≤ n) (h1 : n < 2 ^ 32) : IntKind.u32.wrap n = n := by rw [IntKind.wrap_u32]; omega
theorem or_u32 (i : Nat) (x y : Int) (hx0 : 0 ≤ x) (hx : x % 2 ^ i = 0) (hx1 : x < 2 ^ 32) (hy0 : 0 ≤ y) (hy : y < 2 ^ i) (hy1 : y < 2 ^ 32) : Go.bits .or .u32 x y = x + y := Go.bits_join .u32 32 (by decide) wraps_u32 i x y hx0 hx hx1 hy0 hy hy1
/-- four bytes, one behind the other, are a word -/
theorem word4_eq (a b c d : Int) (ha : 0 ≤ a ∧ a < 256) (hb : 0 ≤ b ∧ b < 256) (hc : 0 ≤ c ∧ c < 256) (hd : 0 ≤ d ∧ d < 256) : word4 a b c d = ((a * 256 + b) * 256 + c) * 256 + d := by
  unfold word4
  have e1 : a % 4294967296 * 16777216 % 4294967296 = a * 16777216 := by omega
  have e2 : b % 4294967296 * 65536 % 4294967296 = b * 65536 := by omega
  have e3 : c % 4294967296 * 256 % 4294967296 = c * 256 := by omega
  have e4 : d % 4294967296 = d := by omega
  rw [e1, e2, e3, e4, or_u32 24 (a * 16777216) (b * 65536) (by omega) (by omega) (by omega) (by omega) (by omega) (by omega), or_u32 16 (a * 16777216 + b * 65536) (c * 256) (by omega) (by omega) (by omega) (by omega) (by omega) (by omega), or_u32 8 (a * 16777216 + b * 65536 + c * 256) d (by omega) (by omega) (by omega) (by omega) (by omega) (by omega)]
  omega
theorem w64 (n : Int) (h0 : -9223372036854775808 ≤ n) (h1 : n ≤ 9223372036854775807) : wrap64 n = n := by unfold wrap64; omega
theorem l1_step {b X : List Int} {t x i y j : Int} {k : Nat} (hi : i < 4) (hy : wrap64 (wrap64 (4 * t) + i) = y) (h0 : 0 ≤ y) (h1 : y < (b.length : Int)) (hj : wrap64 (i + 1) = j) :
    retconref02_schedule.l1 (k + 1) b X t x i = retconref02_schedule.l1 k b X t ((x * 256 % 4294967296 + rd b y % 4294967296) % 4294967296) j := by
  conv => lhs; unfold retconref02_schedule.l1
  simp only [hy, hj, hi, h0, h1, if_true]
theorem l1_end {b X : List Int} {t x i t' : Int} {k : Nat} (hi : ¬ i < 4) (hX : X.length < 35184372088832) (ht : wrap64 (t + 1) = t') : retconref02_schedule.l1 (k + 1) b X t x i = retconref02_schedule.l0 k b (X ++ [x]) t' := by
  conv => lhs; unfold retconref02_schedule.l1
  simp only [hi, hX, ht, if_true, if_false]
theorem byte_sum {x a0 a1 a2 a3 : Int} (hx : x = 0) (h0 : 0 ≤ a0 ∧ a0 < 256) (h1 : 0 ≤ a1 ∧ a1 < 256) (h2 : 0 ≤ a2 ∧ a2 < 256) (h3 : 0 ≤ a3 ∧ a3 < 256) :
    ((((((((x * 256 % 4294967296 + a0 % 4294967296) % 4294967296) * 256 % 4294967296 + a1 % 4294967296) % 4294967296) * 256 % 4294967296 + a2 % 4294967296) % 4294967296) * 256 % 4294967296 + a3 % 4294967296) % 4294967296 : Int) = ((a0 * 256 + a1) * 256 + a2) * 256 + a3 := by omega
theorem sched_in {b : List Int} (hB : Bytes b) (hb : b.length = 64) (X : List Int) (t : Nat) (ht : t < 16) (hX : X.length < 35184372088832) (k : Nat) (x i0 : Int) (hx : x = 0) (hi0 : i0 = 0) :
    retconref02_schedule.l1 (k + 5) b X t x i0 = retconref02_schedule.l0 k b (X ++ [word b t]) ((t + 1 : Nat) : Int) := by
  have k0 : i0 < 4 := by omega
  have p0 : (0 : Int) ≤ 4 * t := by omega
  have q0 : (4 * t : Int) < (b.length : Int) := by omega
  have p1 : (0 : Int) ≤ 4 * t + 1 := by omega
  have q1 : (4 * t + 1 : Int) < (b.length : Int) := by omega
  have p2 : (0 : Int) ≤ 4 * t + 2 := by omega
  have q2 : (4 * t + 2 : Int) < (b.length : Int) := by omega
  have p3 : (0 : Int) ≤ 4 * t + 3 := by omega
  have q3 : (4 * t + 3 : Int) < (b.length : Int) := by omega
  have h0 := hB.rd (4 * t)
  have h1 := hB.rd (4 * t + 1)
  have h2 := hB.rd (4 * t + 2)
  have h3 := hB.rd (4 * t + 3)
  have hw : word b t = ((rd b (4 * t) * 256 + rd b (4 * t + 1)) * 256 + rd b (4 * t + 2)) * 256 + rd b (4 * t + 3) := word4_eq _ _ _ _ h0 h1 h2 h3
  have f0 : wrap64 (4 * (t : Int)) = 4 * t := w64 _ (by omega) (by omega)
  have g0 : wrap64 (wrap64 (4 * (t : Int)) + i0) = 4 * t := by rw [f0]; unfold wrap64; omega
  have g1 : wrap64 (wrap64 (4 * (t : Int)) + 1) = 4 * t + 1 := by rw [f0]; unfold wrap64; omega
  have g2 : wrap64 (wrap64 (4 * (t : Int)) + 2) = 4 * t + 2 := by rw [f0]; unfold wrap64; omega
  have g3 : wrap64 (wrap64 (4 * (t : Int)) + 3) = 4 * t + 3 := by rw [f0]; unfold wrap64; omega
  have gt : wrap64 ((t : Int) + 1) = ((t + 1 : Nat) : Int) := by unfold wrap64; omega
  have u0 : wrap64 (i0 + 1) = 1 := by unfold wrap64; omega
  have u1 : wrap64 (1 + 1) = 2 := by unfold wrap64; omega
  have u2 : wrap64 (2 + 1) = 3 := by unfold wrap64; omega
  have u3 : wrap64 (3 + 1) = 4 := by unfold wrap64; omega
  refine (l1_step (k := k + 4) k0 g0 p0 q0 u0).trans ?_
  refine (l1_step (k := k + 3) (by decide) g1 p1 q1 u1).trans ?_
  refine (l1_step (k := k + 2) (by decide) g2 p2 q2 u2).trans ?_
  refine (l1_step (k := k + 1) (by decide) g3 p3 q3 u3).trans ?_
  refine (l1_end (k := k) (by decide) hX gt).trans ?_
  rw [hw]
  exact congrArg (fun z => retconref02_schedule.l0 k b (X ++ [z]) ((t + 1 : Nat) : Int)) (byte_sum hx h0 h1 h2 h3)
theorem sched2 {b : List Int} : ∀ d j : Nat, j + d = 48 → ∀ k, d < k → retconref02_schedule.l0 k b ((w2I b j).take (16 + j)) ((16 + j : Nat) : Int) = some (w2I b 48)
  | 0, j, hj, k, hk => by
    obtain ⟨m, rfl⟩ : ∃ m, k = m + 1 := ⟨k - 1, by omega⟩
    obtain rfl : j = 48 := by omega
    unfold retconref02_schedule.l0
    rw [if_neg (by decide), List.take_of_length_le (by rw [w2I_len]; decide)]
  | d + 1, j, hj, k, hk => by
    obtain ⟨m, rfl⟩ : ∃ m, k = m + 1 := ⟨k - 1, by omega⟩
    have hl : ((w2I b j).take (16 + j)).length = 16 + j := by rw [List.length_take, w2I_len]; omega
    have hr : ∀ i : Int, 0 ≤ i → i < 16 + j → rd ((w2I b j).take (16 + j)) i = rd (w2I b j) i := fun i h0 h1 => by
      unfold rd
      rw [List.getD_eq_getElem?_getD, List.getD_eq_getElem?_getD, List.getElem?_take, if_pos (by omega)]
    have ih := sched2 (b := b) d (j + 1) (by omega) m (by omega)
    have hX : (w2I b (j + 1)).take (16 + (j + 1)) = (w2I b j).take (16 + j) ++ [nextI (rd (w2I b j) j) (rd (w2I b j) (j + 1)) (rd (w2I b j) (j + 9)) (rd (w2I b j) (j + 14))] := by
      rw [w2I, show 16 + (j + 1) = (16 + j) + 1 by omega, show j + 16 = 16 + j by omega, List.take_succ_eq_append_getElem (by rw [List.length_set, w2I_len]; omega), List.getElem_set_self, List.take_set_of_le (Nat.le_refl _)]
    rw [hX] at ih
    unfold retconref02_schedule.l0
    have q2 : wrap64 (((16 + j : Nat) : Int) - 2) = j + 14 := by rw [w64 _ (by omega) (by omega)]; omega
    have q7 : wrap64 (((16 + j : Nat) : Int) - 7) = j + 9 := by rw [w64 _ (by omega) (by omega)]; omega
    have q15 : wrap64 (((16 + j : Nat) : Int) - 15) = j + 1 := by rw [w64 _ (by omega) (by omega)]; omega
    have q16 : wrap64 (((16 + j : Nat) : Int) - 16) = j := by rw [w64 _ (by omega) (by omega)]; omega
    have q1 : wrap64 (((16 + j : Nat) : Int) + 1) = ((16 + (j + 1) : Nat) : Int) := by rw [w64 _ (by omega) (by omega)]; omega
    rw [if_pos (by omega), if_neg (by omega), q2, q7, q15, q16, q1, hl, if_pos (by omega), if_pos (by omega), hr _ (by omega) (by omega), lowQ_f]
    simp only [Option.bind_some]
    rw [if_pos (by omega), if_pos (by omega), hr _ (by omega) (by omega), if_pos (by omega), if_pos (by omega), hr _ (by omega) (by omega), lowP_f]
    simp only [Option.bind_some]
    rw [if_pos (by omega), if_pos (by omega), hr _ (by omega) (by omega), if_pos (by omega), ← ih]
    congr 3
    unfold nextI
    omega
theorem sched1 {b : List Int} (hB : Bytes b) (hb : b.length = 64) : ∀ d t : Nat, t + d = 16 → ∀ k, 6 * d + 49 ≤ k → retconref02_schedule.l0 k b ((List.range t).map (word b)) t = some (w2I b 48)
  | 0, t, ht, k, hk => by
    obtain rfl : t = 16 := by omega
    have := sched2 (b := b) 48 0 (by omega) k (by omega)
    rw [w2I] at this
    unfold w1I at this
    rw [List.take_left' (by simp)] at this
    exact this
  | d + 1, t, ht, k, hk => by
    obtain ⟨m, rfl⟩ : ∃ m, k = (m + 5) + 1 := ⟨k - 6, by omega⟩
    unfold retconref02_schedule.l0
    rw [if_pos (by omega), if_pos (by omega), sched_in hB hb _ t (by omega) (by simp; omega) m _ _ rfl rfl]
    have := sched1 hB hb d (t + 1) (by omega) m (by omega)
    rw [List.range_succ, List.map_append] at this
    exact this
theorem sched_f {b : List Int} (hB : Bytes b) (hb : b.length = 64) : retconref02_schedule.f 200 b = some (w2I b 48) := sched1 hB hb 16 0 (by omega) 200 (by omega)
end Go.Proofs.Ytgflghnbpbiakaa.H
namespace Go.Proofs.Ytgflghnbpbiakaa.H
open Go.RowKit Go.Proofs.Ytgflghnbpbiakaa.XH Go.Proofs.YtgflghnbpbiakaaW.PrintWords Go.Proofs.YtgflghnbpbiakaaW.PrintLast Go.Proofs.YtgflghnbpbiakaaW.PrintMore Go.Proofs.YtgflghnbpbiakaaXe Go.Proofs.YtgflghnbpbiakaaXs
set_option linter.unusedVariables false
set_option linter.unusedSimpArgs false
attribute [local go_sem ↓] Go.wp_at_zero Go.wp_at_succ
attribute [local go_sem] valUpon
attribute [local go_sem ↓ high] bn124 bn126 bn23
attribute [local go_sem high] BN124.run BN126.run BN23.run
def add8 (s v : V8) : List Int := [(s.a + v.a) % 4294967296, (s.b + v.b) % 4294967296, (s.c + v.c) % 4294967296, (s.d + v.d) % 4294967296, (s.e + v.e) % 4294967296, (s.f + v.f) % 4294967296, (s.g + v.g) % 4294967296, (s.h + v.h) % 4294967296]
theorem add8_eq (s v : V8) : add8 s v = addI s.l v.l 8 := rfl
set_option maxHeartbeats 8000000 in
set_option maxRecDepth 100000 in
theorem c_ch (x y z : Int) (w : World) : Calls Try.prog 77 #[.int .u32 x, .int .u32 y, .int .u32 z] w fun e w' => e = .returned (.int .u32 (Go.bits .xor .u32 (Go.bits .and .u32 x y) (Go.bits .and .u32 (notI x) z))) ∧ Drawn0 w w' := by
  go_enter Try.func77, Try.ntmps77
  go_wp2
  go_ret
  exact ⟨rfl, Drawn0.refl _⟩
theorem c_upE (x : Int) (w : World) : Calls Try.prog 76 #[.int .u32 x] w fun e w' => e = .returned (.int .u32 (Go.bits .xor .u32 (Go.bits .xor .u32 (rot x 6) (rot x 11)) (rot x 25))) ∧ Drawn0 w w' := retconref02_upperE.calls x _ w (upE_f x)
theorem c_upA (x : Int) (w : World) : Calls Try.prog 78 #[.int .u32 x] w fun e w' => e = .returned (.int .u32 (Go.bits .xor .u32 (Go.bits .xor .u32 (rot x 2) (rot x 13)) (rot x 22))) ∧ Drawn0 w w' := retconref02_upperA.calls x _ w (upA_f x)
theorem c_maj (x y z : Int) (w : World) : Calls Try.prog 79 #[.int .u32 x, .int .u32 y, .int .u32 z] w fun e w' => e = .returned (.int .u32 (Go.bits .xor .u32 (Go.bits .xor .u32 (Go.bits .and .u32 x y) (Go.bits .and .u32 x z)) (Go.bits .and .u32 y z))) ∧ Drawn0 w w' := retconref02_maj.calls x y z _ w rfl
theorem c_sched (A : Option Addr) (c : Nat) (b : List Int) (w : World) (hr : Kd.C (Kd.int .u8) w A b.length b) (hc : b.length ≤ c) (hb : b.length = 64) (hB : Bytes b) : Calls Try.prog 75 #[.slice A b.length c] w fun e w' => ∃ v0_ : Value, e = .returned (v0_) ∧ Kd.R (Kd.int .u32) 110 w' w.heap.size (fun _ => True) v0_ (w2I b 48) ∧ Below w.heap.size w w' := retconref02_schedule.calls 200 A c b _ w hr hc (sched_f hB hb)
set_option maxHeartbeats 8000000 in
set_option maxRecDepth 100000 in
theorem c_block (s : V8) (b : List Int) (hb : b.length = 64) (hB : Bytes b) (A : Option Addr) (c : Nat) (A2 : Option Addr) (c2 : Nat) (w : World) (hr : Kd.C (Kd.int .u8) w A b.length b) (hc : b.length ≤ c) (hk : Kd.C (Kd.int .u32) w A2 KW.length KW) :
    Calls Try.prog 67 #[.agg (u32s s.l).toArray, .slice A b.length c, .slice A2 KW.length c2] w fun e w' => e = .returned (.agg (u32s (behI s b)).toArray) ∧ Below w.heap.size w w' := by
  have HR := Aside0.mk hr
  have HC := Aside0.mk hc
  have HK0 := Aside0.mk hk
  have HBL := Aside0.mk hb
  have HBY := Aside0.mk hB
  have HP := Aside0.mk (Hp.start w)
  clear hr hc hk hb hB
  go_enter Try.func67, Try.ntmps67
  go_wp2_with (first | ((with_reducible refine gate_dst (N := 3) rfl ?_); refine ev_box rfl 112 (.tmp 0) rfl (u32s s.l).toArray rfl ?_; intro g_s wn1 hge hg hb; have HPn := Aside0.mk (HP.out.newB hb hg hge); clear HP; have HP := HPn; clear HPn; clear hge hg hb) | ((with_reducible refine gate_dst (N := 6) rfl ?_); refine ev_alloc rfl 112 rfl (.agg (u32s (List.replicate 8 0)).toArray) (by kernel_rfl) ?_; intro g_o wn2 hge hg hb; have HPn := Aside0.mk (HP.out.newB hb hg hge); clear HP; have HP := HPn; clear HPn; clear hge hg hb))
  (with_reducible refine (c_sched A c b _ (Kd.C_below HR.out HP.out.below) HC.out HBL.out HBY.out).mono ?_); rintro e wn3 ⟨v, rfl, ho, hb⟩; have HPn := Aside0.mk (HP.out.newR hb ho); clear HP; have HP := HPn; clear HPn; obtain ⟨A_ws, c_ws, rfl⟩ := Kd.R_slice (HP.out.row 0 rfl); clear hb ho
  go_wp2_with (first | ((with_reducible refine gate_dst (N := 14) rfl ?_); refine ev_load rfl 112 (.tmp 3) rfl g_s rfl (HP.out.blk 2 rfl) Try.underlying112 rfl (by kernel_rfl) ?_) | ((with_reducible refine gate_dst (N := 8) rfl ?_); refine ev_alloc rfl 112 rfl (.agg (u32s (List.replicate 8 0)).toArray) (by kernel_rfl) ?_; intro g_v wn4 hge hg hb; have HPn := Aside0.mk (HP.out.newB hb hg hge); clear HP; have HP := HPn; clear HPn; clear hge hg hb) | ((with_reducible refine gate_store (t := 112) (p := 8) rfl ?_); refine ev_store rfl 112 (.tmp 8) (.tmp 14) rfl rfl _ rfl (cells := (u32s s.l).toArray) rfl (HP.out.blk 0 rfl) (by kernel_rfl) (by rfl) (one_u32 _) ?_; intro wn5 hg hgr; have HPn := Aside0.mk (HP.out.setB 0 rfl hgr hg); clear HP; have HP := HPn; clear HPn; clear hg hgr))
  have HP1 := Aside0.mk (show Hp w wn5 [.blk g_v (.cells (u32s s.l).toArray 112 (0, 0)), .row (Kd.int .u32) 110 w.heap.size (.slice A_ws (w2I b 48).length c_ws) (w2I b 48), .blk g_o (.cells (u32s (List.replicate 8 0)).toArray 112 (0, 0)), .blk g_s (.cells (u32s s.l).toArray 112 (0, 0))] from HP.out)
  clear HP
  go_wp2
  go_loopg [9, 10, 11] 64 (fun kq v9 v10 v11 w' => ∃ (i : Nat) (x : Int) (v : V8), v9 = .int .i64 x ∧ Aside0 (x = (i : Int)) ∧ Aside0 (kq + i = 64) ∧ Aside0 (v = rndsI s KW (w2I b 48) i) ∧ Aside0 (Hp w w' [.blk g_v (.cells (u32s v.l).toArray 112 (0, 0)), .row (Kd.int .u32) 110 w.heap.size (.slice A_ws (w2I b 48).length c_ws) (w2I b 48), .blk g_o (.cells (u32s (List.replicate 8 0)).toArray 112 (0, 0)), .blk g_s (.cells (u32s s.l).toArray 112 (0, 0))]))
  case atStart => exact ⟨0, 0, s, rfl, ⟨rfl⟩, ⟨rfl⟩, ⟨rfl⟩, HP1⟩
  case round =>
    clear HP1
    obtain ⟨i, x, v, rfl, HX, HK, HV, HP⟩ := hrel
    have hx := HX.out
    by_cases c1 : i < 64
    · have d1 : decide (x < 64) = true := decide_eq_true (by omega)
      have ex := i64k (x := x + 1) rfl (by omega)
      have px : 0 ≤ x := by omega
      have qk : x < (KW.length : Int) := by show x < 64; omega
      have qw : x < ((w2I b 48).length : Int) := by rw [w2I_len]; omega
      obtain ⟨ak, rfl, hxk⟩ := Kd.at_int (Kd.C_below HK0.out HP.out.below) x px qk
      obtain ⟨aw, rfl, hxw⟩ := Kd.at_int (Kd.R_reads' (HP.out.row 1 rfl)).2.2 x px qw
      have hc0 : wr.cell? ⟨g_v, 0, none⟩ = some (.int .u32 v.a) := cellN (l := v.l) (HP.out.blk 0 rfl) 0 (by show 0 < 8; decide)
      have hc1 : wr.cell? ⟨g_v, 1, none⟩ = some (.int .u32 v.b) := cellN (l := v.l) (HP.out.blk 0 rfl) 1 (by show 1 < 8; decide)
      have hc2 : wr.cell? ⟨g_v, 2, none⟩ = some (.int .u32 v.c) := cellN (l := v.l) (HP.out.blk 0 rfl) 2 (by show 2 < 8; decide)
      have hc3 : wr.cell? ⟨g_v, 3, none⟩ = some (.int .u32 v.d) := cellN (l := v.l) (HP.out.blk 0 rfl) 3 (by show 3 < 8; decide)
      have hc4 : wr.cell? ⟨g_v, 4, none⟩ = some (.int .u32 v.e) := cellN (l := v.l) (HP.out.blk 0 rfl) 4 (by show 4 < 8; decide)
      have hc5 : wr.cell? ⟨g_v, 5, none⟩ = some (.int .u32 v.f) := cellN (l := v.l) (HP.out.blk 0 rfl) 5 (by show 5 < 8; decide)
      have hc6 : wr.cell? ⟨g_v, 6, none⟩ = some (.int .u32 v.g) := cellN (l := v.l) (HP.out.blk 0 rfl) 6 (by show 6 < 8; decide)
      have hc7 : wr.cell? ⟨g_v, 7, none⟩ = some (.int .u32 v.h) := cellN (l := v.l) (HP.out.blk 0 rfl) 7 (by show 7 < 8; decide)
      have HB1 := Aside0.mk c1
      clear hx c1
      go_wp2
      go_quiet (first | (go_at_call 76; refine (c_upE _ _).mono ?_; rintro e w' ⟨rfl, ⟨nd, rfl⟩⟩; first | exact ⟨rfl, _, World.drewN_drewN _ _ _⟩ | exact ⟨rfl, _, Eq.trans (World.drewN_drewN _ _ _) (congrArg (World.drewN _) (Nat.add_assoc _ _ _))⟩ | exact ⟨rfl, _, rfl⟩) | (go_at_call 77; refine (c_ch _ _ _ _).mono ?_; rintro e w' ⟨rfl, ⟨nd, rfl⟩⟩; first | exact ⟨rfl, _, World.drewN_drewN _ _ _⟩ | exact ⟨rfl, _, Eq.trans (World.drewN_drewN _ _ _) (congrArg (World.drewN _) (Nat.add_assoc _ _ _))⟩ | exact ⟨rfl, _, rfl⟩))
      generalize hT : ((v.h + Go.bits .xor .u32 (Go.bits .xor .u32 (rot v.e 6) (rot v.e 11)) (rot v.e 25) + Go.bits .xor .u32 (Go.bits .and .u32 v.e v.f) (Go.bits .and .u32 (notI v.e) v.g) + rd KW x) % 4294967296 + rd (w2I b 48) x) % 4294967296 = tv
      have HT := Aside0.mk hT
      clear hT
      go_wp2
      go_quiet (first | (go_at_call 78; refine (c_upA _ _).mono ?_; rintro e w' ⟨rfl, ⟨nd, rfl⟩⟩; first | exact ⟨rfl, _, World.drewN_drewN _ _ _⟩ | exact ⟨rfl, _, Eq.trans (World.drewN_drewN _ _ _) (congrArg (World.drewN _) (Nat.add_assoc _ _ _))⟩ | exact ⟨rfl, _, rfl⟩) | (go_at_call 79; refine (c_maj _ _ _ _).mono ?_; rintro e w' ⟨rfl, ⟨nd, rfl⟩⟩; first | exact ⟨rfl, _, World.drewN_drewN _ _ _⟩ | exact ⟨rfl, _, Eq.trans (World.drewN_drewN _ _ _) (congrArg (World.drewN _) (Nat.add_assoc _ _ _))⟩ | exact ⟨rfl, _, rfl⟩))
      generalize hU : (Go.bits .xor .u32 (Go.bits .xor .u32 (rot v.a 2) (rot v.a 13)) (rot v.a 22) + Go.bits .xor .u32 (Go.bits .xor .u32 (Go.bits .and .u32 v.a v.b) (Go.bits .and .u32 v.a v.c)) (Go.bits .and .u32 v.b v.c)) % 4294967296 = uv
      have HU := Aside0.mk hU
      clear hU
      go_wp2_with (first | ((with_reducible refine gate_store (t := 112) (p := 8) rfl ?_); refine ev_store rfl 112 (.tmp 8) (.tmp 73) rfl rfl _ rfl (cells := (u32s (V8.l ⟨(tv + uv) % 4294967296, v.a, v.b, v.c, (v.d + tv) % 4294967296, v.e, v.f, v.g⟩)).toArray) rfl ((HP.out.drewN _).blk 0 rfl) (by kernel_rfl) (by rfl) (one_u32 _) ?_; intro wn41 hg hgr; have HPn := Aside0.mk ((HP.out.drewN _).setB 0 rfl hgr hg); clear HP; have HP := HPn; clear HPn; clear hg hgr))
      have hrv : (⟨(tv + uv) % 4294967296, v.a, v.b, v.c, (v.d + tv) % 4294967296, v.e, v.f, v.g⟩ : V8) = rndsI s KW (w2I b 48) (i + 1) := by
        rw [rndsI, ← HV.out, ← HX.out]
        have h1 : sumI v (rd KW x) (rd (w2I b 48) x) = tv := by
          rw [← HT.out]
          unfold sumI
          simp only [IntKind.wrap_u32, Int.emod_add_emod]
          rfl
        have h2 := HU.out
        unfold rndI
        rw [h1, ← h2, Int.add_emod_emod]
      go_roundg (gk - 1)
      case measure => have := HK.out; have := HB1.out; omega
      case rel => exact ⟨i + 1, x + 1, _, by simp, ⟨by have := HX.out; omega⟩, ⟨by have := HK.out; have := HB1.out; omega⟩, ⟨hrv⟩, ⟨HP.out⟩⟩
    · have d1 : decide (x < 64) = false := decide_eq_false (by omega)
      obtain rfl : i = 64 := by have := HK.out; omega
      have hc0 : wr.cell? ⟨g_v, 0, none⟩ = some (.int .u32 v.a) := cellN (l := v.l) (HP.out.blk 0 rfl) 0 (by show 0 < 8; decide)
      have hc1 : wr.cell? ⟨g_v, 1, none⟩ = some (.int .u32 v.b) := cellN (l := v.l) (HP.out.blk 0 rfl) 1 (by show 1 < 8; decide)
      have hc2 : wr.cell? ⟨g_v, 2, none⟩ = some (.int .u32 v.c) := cellN (l := v.l) (HP.out.blk 0 rfl) 2 (by show 2 < 8; decide)
      have hc3 : wr.cell? ⟨g_v, 3, none⟩ = some (.int .u32 v.d) := cellN (l := v.l) (HP.out.blk 0 rfl) 3 (by show 3 < 8; decide)
      have hc4 : wr.cell? ⟨g_v, 4, none⟩ = some (.int .u32 v.e) := cellN (l := v.l) (HP.out.blk 0 rfl) 4 (by show 4 < 8; decide)
      have hc5 : wr.cell? ⟨g_v, 5, none⟩ = some (.int .u32 v.f) := cellN (l := v.l) (HP.out.blk 0 rfl) 5 (by show 5 < 8; decide)
      have hc6 : wr.cell? ⟨g_v, 6, none⟩ = some (.int .u32 v.g) := cellN (l := v.l) (HP.out.blk 0 rfl) 6 (by show 6 < 8; decide)
      have hc7 : wr.cell? ⟨g_v, 7, none⟩ = some (.int .u32 v.h) := cellN (l := v.l) (HP.out.blk 0 rfl) 7 (by show 7 < 8; decide)
      have hs0 : wr.cell? ⟨g_s, 0, none⟩ = some (.int .u32 s.a) := cellN (l := s.l) (HP.out.blk 3 rfl) 0 (by show 0 < 8; decide)
      have hs1 : wr.cell? ⟨g_s, 1, none⟩ = some (.int .u32 s.b) := cellN (l := s.l) (HP.out.blk 3 rfl) 1 (by show 1 < 8; decide)
      have hs2 : wr.cell? ⟨g_s, 2, none⟩ = some (.int .u32 s.c) := cellN (l := s.l) (HP.out.blk 3 rfl) 2 (by show 2 < 8; decide)
      have hs3 : wr.cell? ⟨g_s, 3, none⟩ = some (.int .u32 s.d) := cellN (l := s.l) (HP.out.blk 3 rfl) 3 (by show 3 < 8; decide)
      have hs4 : wr.cell? ⟨g_s, 4, none⟩ = some (.int .u32 s.e) := cellN (l := s.l) (HP.out.blk 3 rfl) 4 (by show 4 < 8; decide)
      have hs5 : wr.cell? ⟨g_s, 5, none⟩ = some (.int .u32 s.f) := cellN (l := s.l) (HP.out.blk 3 rfl) 5 (by show 5 < 8; decide)
      have hs6 : wr.cell? ⟨g_s, 6, none⟩ = some (.int .u32 s.g) := cellN (l := s.l) (HP.out.blk 3 rfl) 6 (by show 6 < 8; decide)
      have hs7 : wr.cell? ⟨g_s, 7, none⟩ = some (.int .u32 s.h) := cellN (l := s.l) (HP.out.blk 3 rfl) 7 (by show 7 < 8; decide)
      clear c1 hx HX HK
      go_wp2_with (first | ((with_reducible refine gate_store (t := 112) (p := 6) rfl ?_); refine ev_store rfl 112 (.tmp 6) (.tmp 114) rfl rfl _ rfl (cells := (u32s (add8 s v)).toArray) rfl (HP.out.blk 2 rfl) (by kernel_rfl) (by rfl) (one_u32 _) ?_; intro wn51 hg hgr; have HPn := Aside0.mk (HP.out.setB 2 rfl hgr hg); clear HP; have HP := HPn; clear HPn; clear hg hgr))
      refine bodyPost_ret (results_cell_row rfl _ _ g_o 112 (u32s (add8 s v)).toArray (0, 0) _ rfl (HP.out.blk 2 rfl) Try.underlying112 rfl (by kernel_rfl)) rfl ?_
      exact ⟨by rw [add8_eq, HV.out]; rfl, HP.out.below⟩
end Go.Proofs.Ytgflghnbpbiakaa.H
namespace Go.Proofs.Ytgflghnbpbiakaa.H
open Go.RowKit Go.Proofs.Ytgflghnbpbiakaa.XH Go.Proofs.YtgflghnbpbiakaaW.PrintWords Go.Proofs.YtgflghnbpbiakaaW.PrintLast Go.Proofs.YtgflghnbpbiakaaW.PrintMore Go.Proofs.YtgflghnbpbiakaaXe Go.Proofs.YtgflghnbpbiakaaXs
set_option linter.unusedVariables false
set_option linter.unusedSimpArgs false
attribute [local go_sem ↓] Go.wp_at_zero Go.wp_at_succ
attribute [local go_sem] valUpon
attribute [local go_sem ↓ high] bn124 bn126 bn23
attribute [local go_sem high] BN124.run BN126.run BN23.run
theorem rest_take (sz : Nat) (lg : Int) (hs : 1 ≤ sz) (hs2 : sz ≤ 64) : ∀ i, i ≤ 8 → (restI sz lg i).take (sz + i) = (128 :: List.replicate (sz - 1) 0) ++ (List.range i).map (fun j => lg / 2 ^ (56 - 8 * j) % 256)
  | 0, _ => by
    obtain ⟨m, rfl⟩ : ∃ m, sz = m + 1 := ⟨sz - 1, by omega⟩
    rw [restI, Nat.add_zero, List.take_succ_cons, List.take_replicate, Nat.min_eq_left (by omega)]
    simp
  | i + 1, h => by
    have ih := rest_take sz lg hs hs2 i (by omega)
    have hl := restI_len sz lg i
    rw [restI, show sz + (i + 1) = (sz + i) + 1 by omega, List.take_succ_eq_append_getElem (by rw [List.length_set]; omega), List.getElem_set_self, List.take_set_of_le (Nat.le_refl _), ih, List.range_succ, List.map_append, List.append_assoc]
    rfl
theorem message_f (l : List Int) (hl : l.length ≤ 100000000000000) : retconref02_message.f l = some (l ++ padI l.length) := by
  have hpad : padI l.length = (128 :: List.replicate (szI l.length - 1) 0) ++ (List.range 8).map (fun j => ((l.length : Int) * 8) / 2 ^ (56 - 8 * j) % 256) := rest_take _ _ (by unfold szI; omega) (by unfold szI; omega) 8 (Nat.le_refl _)
  have h1 : IntKind.u64.wrap (l.length : Int) = (l.length : Int) := by simp [IntKind.wrap, IntKind.bits, IntKind.signed]; omega
  have h2 : IntKind.u64.wrap ((l.length : Int) * 8) = (l.length : Int) * 8 := by simp [IntKind.wrap, IntKind.bits, IntKind.signed]; omega
  have h3 : ((119 - ((l.length : Int) % 64)) % 64 : Int).toNat = szI l.length - 1 := by unfold szI; omega
  have h4 : (0 : Int) ≤ ((119 - ((l.length : Int) % 64)) % 64) := by omega
  have h5 : szI l.length ≤ 64 := by unfold szI; omega
  unfold retconref02_message.f
  simp only [h1, h2, h3, Option.bind_some, List.nil_append, List.length_nil, List.length_append, List.length_cons, List.length_replicate]
  rw [if_pos (by omega), if_pos (by omega), if_pos h4, if_pos (by omega), if_pos (by omega), hpad]
  congr 1
  simp [List.range_succ]
theorem c_message (A : Option Addr) (c : Nat) (b : List Int) (w : World) (hr : Kd.C (Kd.int .u8) w A b.length b) (hc : b.length ≤ c) (hl : b.length ≤ 100000000000000) : Calls Try.prog 65 #[.slice A b.length c] w fun e w' => ∃ v0_ : Value, e = .returned (v0_) ∧ Kd.R (Kd.int .u8) 5 w' w.heap.size (fun _ => True) v0_ (b ++ padI b.length) ∧ Below w.heap.size w w' := retconref02_message.calls A c b _ w hr hc (message_f b hl)
theorem c_consts (w : World) : Calls Try.prog 66 #[] w fun e w' => ∃ v0_ : Value, e = .returned (v0_) ∧ Kd.R (Kd.int .u32) 110 w' w.heap.size (fun _ => True) v0_ KW ∧ Below w.heap.size w w' := retconref02_constants.calls _ w rfl
theorem pad_len (b : List Int) : (b ++ padI b.length).length % 64 = 0 := by
  unfold padI
  rw [List.length_append, List.length_take, restI_len]
  unfold szI
  omega
theorem pad_bytes {b : List Int} (h : Bytes b) : Bytes (b ++ padI b.length) := by
  intro x hx
  rcases List.mem_append.1 hx with hx | hx
  · exact h x hx
  · rw [show padI b.length = (128 :: List.replicate (szI b.length - 1) 0) ++ (List.range 8).map (fun j => ((b.length : Int) * 8) / 2 ^ (56 - 8 * j) % 256) from rest_take _ _ (by unfold szI; omega) (by unfold szI; omega) 8 (Nat.le_refl _)] at hx
    rcases List.mem_append.1 hx with hx | hx
    · rcases List.mem_cons.1 hx with rfl | hx
      · decide
      · rw [List.mem_replicate] at hx; omega
    · obtain ⟨j, _, rfl⟩ := List.mem_map.1 hx
      exact ⟨Int.emod_nonneg _ (by decide), Int.emod_lt_of_pos _ (by decide)⟩
theorem rd_set_eq {l : List Int} {i : Nat} (x : Int) (h : i < l.length) : rd (l.set i x) (i : Int) = x := by simp [Go.Proofs.YtgflghnbpbiakaaW.PrintWords.rd, h]
theorem rd_set_ne {l : List Int} {i q : Nat} (x : Int) (h : i ≠ q) : rd (l.set i x) (q : Int) = rd l q := by simp [Go.Proofs.YtgflghnbpbiakaaW.PrintWords.rd, h]
theorem ext_rd {l m : List Int} (h : l.length = m.length) (hq : ∀ q : Nat, q < l.length → rd l q = rd m q) : l = m := by
  refine List.ext_getElem h fun q h1 h2 => ?_
  have := hq q h1
  simpa [Go.Proofs.YtgflghnbpbiakaaW.PrintWords.rd, h1, h2] using this
theorem rd_outI (ws : List Int) (q : Nat) (h : q < 32) : rd (outI ws 32) q = byteI ws q := by simp [Go.Proofs.YtgflghnbpbiakaaW.PrintWords.rd, outI, h]
theorem add8_u32 (s v : V8) (q : Nat) : 0 ≤ rd (add8 s v) q ∧ rd (add8 s v) q < 4294967296 := by
  have h : ∀ x ∈ add8 s v, 0 ≤ x ∧ x < 4294967296 := by
    intro x hx
    simp only [add8, List.mem_cons, List.not_mem_nil, or_false] at hx
    rcases hx with rfl | rfl | rfl | rfl | rfl | rfl | rfl | rfl <;> exact ⟨Int.emod_nonneg _ (by decide), Int.emod_lt_of_pos _ (by decide)⟩
  unfold Go.Proofs.YtgflghnbpbiakaaW.PrintWords.rd
  by_cases hi : (q : Int).toNat < (add8 s v).length
  · rw [List.getD_eq_getElem?_getD, List.getElem?_eq_getElem hi]; exact h _ (List.getElem_mem hi)
  · rw [List.getD_eq_getElem?_getD, List.getElem?_eq_none (by omega)]; decide
theorem H0_u32 (q : Nat) : 0 ≤ rd H0.l q ∧ rd H0.l q < 4294967296 := by
  unfold Go.Proofs.YtgflghnbpbiakaaW.PrintWords.rd
  by_cases hi : (q : Int).toNat < H0.l.length
  · have h : ∀ x ∈ H0.l, 0 ≤ x ∧ x < 4294967296 := by decide
    rw [List.getD_eq_getElem?_getD, List.getElem?_eq_getElem hi]; exact h _ (List.getElem_mem hi)
  · rw [List.getD_eq_getElem?_getD, List.getElem?_eq_none (by omega)]; decide
theorem foldB_u32' : ∀ (n : Nat) (v : V8) (M : List Int), (∀ q : Nat, 0 ≤ rd v.l q ∧ rd v.l q < 4294967296) → ∀ q : Nat, 0 ≤ rd (foldB n v M).l q ∧ rd (foldB n v M).l q < 4294967296
  | 0, v, M, h, q => h q
  | n + 1, v, M, h, q => foldB_u32' n _ _ (fun q => by rw [behV_l]; exact add8_u32 v (rndsI v KW (w2I (M.take 64) 48) 64) q) q
theorem foldB_u32 (n : Nat) (M : List Int) : ∀ q : Nat, 0 ≤ rd (foldB n H0 M).l q ∧ rd (foldB n H0 M).l q < 4294967296 := foldB_u32' n H0 M H0_u32
set_option maxHeartbeats 8000000 in
set_option maxRecDepth 100000 in
theorem c_rsum (A : Option Addr) (c : Nat) (b : List Int) (w : World) (hr : Kd.C (Kd.int .u8) w A b.length b) (hc : b.length ≤ c) (hm : b.length ≤ 100000000000000) (hB : Bytes b) :
    Calls Try.prog 42 #[.slice A b.length c] w fun e w' => e = .returned (.agg (u8s (sha b)).toArray) ∧ Below w.heap.size w w' := by
  have HR := Aside0.mk hr
  have HC := Aside0.mk hc
  have HLL := Aside0.mk hm
  have HBY := Aside0.mk hB
  have HP := Aside0.mk (Hp.start w)
  clear hr hc hm hB
  go_enter Try.func42, Try.ntmps42
  go_wp2_with (first | ((with_reducible refine gate_dst (N := 2) rfl ?_); refine ev_alloc rfl 23 rfl (.agg (u8s (List.replicate 32 0)).toArray) (by kernel_rfl) ?_; intro g_o wn1 hge hg hb; have HPn := Aside0.mk (HP.out.newB hb hg hge); clear HP; have HP := HPn; clear HPn; clear hge hg hb) | ((with_reducible refine gate_dst (N := 3) rfl ?_); refine ev_alloc rfl 112 rfl (.agg (u32s (List.replicate 8 0)).toArray) (by kernel_rfl) ?_; intro g_s wn2 hge hg hb; have HPn := Aside0.mk (HP.out.newB hb hg hge); clear HP; have HP := HPn; clear HPn; clear hge hg hb) | ((with_reducible refine gate_store (t := 112) (p := 3) rfl ?_); refine ev_store rfl 112 (.tmp 3) (.tmp 10) rfl rfl _ rfl (cells := (u32s H0.l).toArray) rfl (HP.out.blk 0 rfl) (by kernel_rfl) (by rfl) (one_u32 _) ?_; intro wn3 hg hgr; have HPn := Aside0.mk (HP.out.setB 0 rfl hgr hg); clear HP; have HP := HPn; clear HPn; clear hg hgr))
  (with_reducible refine (c_message A c b _ (Kd.C_below HR.out HP.out.below) HC.out HLL.out).mono ?_); rintro e wn4 ⟨v, rfl, ho, hb⟩; have HPn := Aside0.mk (HP.out.newR hb ho); clear HP; have HP := HPn; clear HPn; obtain ⟨A_m, c_m, rfl⟩ := Kd.R_slice (HP.out.row 0 rfl); clear hb ho
  go_wp2_with fail
  (with_reducible refine (c_consts _).mono ?_); rintro e wn5 ⟨v, rfl, ho, hb⟩; have HPn := Aside0.mk (HP.out.newR hb ho); clear HP; have HP := HPn; clear HPn; obtain ⟨A_k, c_k, rfl⟩ := Kd.R_slice (HP.out.row 0 rfl); clear hb ho
  go_wp2_with fail
  have HP1 := Aside0.mk (show Hp w wn5 [.row (Kd.int .u32) 110 w.heap.size (.slice A_k KW.length c_k) KW, .row (Kd.int .u8) 5 w.heap.size (.slice A_m (b ++ padI b.length).length c_m) (b ++ padI b.length), .blk g_s (.cells (u32s H0.l).toArray 112 (0, 0)), .blk g_o (.cells (u8s (List.replicate 32 0)).toArray 23 (0, 0))] from HP.out)
  clear HP
  obtain ⟨M, hM⟩ : ∃ M, b ++ padI b.length = M := ⟨_, rfl⟩
  rw [hM] at HP1
  obtain ⟨n, hn⟩ : ∃ n, M.length / 64 = n := ⟨_, rfl⟩
  have hML : M.length = 64 * n := by rw [← hM] at hn ⊢; have := pad_len b; omega
  have hMB : Bytes M := by rw [← hM]; exact pad_bytes HBY.out
  have HF := Aside0.mk (show sha b = outI (foldB n H0 M).l 32 by unfold sha; rw [hM, hn])
  have HB0 := Aside0.mk (fun (w' : World) (l : List Int) (hp : Hp w w' [.row (Kd.int .u32) 110 w.heap.size (.slice A_k KW.length c_k) KW, .row (Kd.int .u8) 5 w.heap.size (.slice A_m M.length c_m) M, .blk g_s (.cells (u32s l).toArray 112 (0, 0)), .blk g_o (.cells (u8s (List.replicate 32 0)).toArray 23 (0, 0))]) => (Kd.R_reads' (hp.row 1 rfl)).2.2)
  have HC0 := Aside0.mk (Kd.R_reads' (HP1.out.row 1 rfl)).2.1
  rw [show b.length + (padI b.length).length = M.length from by rw [← hM, List.length_append]]
  clear hn hM
  go_loopg [4] n (fun kq v4 w' => ∃ (r : List Int) (A2 : Option Addr) (c2 : Nat) (vv : V8), v4 = .slice A2 r.length c2 ∧ Aside0 (r.length = 64 * kq) ∧ Aside0 (Bytes r) ∧ Aside0 (r.length ≤ c2) ∧ Aside0 (foldB kq vv r = foldB n H0 M) ∧ Aside0 (∀ (w' : World) (l : List Int), Hp w w' [.row (Kd.int .u32) 110 w.heap.size (.slice A_k KW.length c_k) KW, .row (Kd.int .u8) 5 w.heap.size (.slice A_m M.length c_m) M, .blk g_s (.cells (u32s l).toArray 112 (0, 0)), .blk g_o (.cells (u8s (List.replicate 32 0)).toArray 23 (0, 0))] → Kd.C (Kd.int .u8) w' A2 r.length r) ∧ Aside0 (Hp w w' [.row (Kd.int .u32) 110 w.heap.size (.slice A_k KW.length c_k) KW, .row (Kd.int .u8) 5 w.heap.size (.slice A_m M.length c_m) M, .blk g_s (.cells (u32s vv.l).toArray 112 (0, 0)), .blk g_o (.cells (u8s (List.replicate 32 0)).toArray 23 (0, 0))]))
  case atStart => exact ⟨M, A_m, c_m, H0, rfl, ⟨hML⟩, ⟨hMB⟩, HC0, ⟨rfl⟩, HB0, HP1⟩
  case round =>
    clear HP1 HB0 HC0 hML hMB
    obtain ⟨r, A2, c2, vv, rfl, HL, HBR, HC2, HFB, HCC, HP⟩ := hrel
    by_cases h0 : 0 < r.length
    · have d1 : decide (0 < r.length) = true := decide_eq_true h0
      have d1i : decide ((0 : Int) < (r.length : Int)) = true := decide_eq_true (by omega)
      obtain ⟨q, hq⟩ : ∃ q, gk = q + 1 := ⟨gk - 1, by have := HL.out; omega⟩
      subst hq
      have hrl : r.length = 64 * q + 64 := by have := HL.out; omega
      obtain ⟨wd, hwd⟩ : ∃ z_ : World, wr.drew = z_ := ⟨_, rfl⟩
      have HPd := Aside0.mk (HP.out.drewN 1)
      rw [← World.drew_is_drewN, hwd] at HPd
      have hc0 : wd.cell? ⟨g_s, 0, none⟩ = some (.int .u32 vv.a) := cellN (l := vv.l) (HPd.out.blk 2 rfl) 0 (by show 0 < 8; decide)
      have hc1 : wd.cell? ⟨g_s, 1, none⟩ = some (.int .u32 vv.b) := cellN (l := vv.l) (HPd.out.blk 2 rfl) 1 (by show 1 < 8; decide)
      have hc2 : wd.cell? ⟨g_s, 2, none⟩ = some (.int .u32 vv.c) := cellN (l := vv.l) (HPd.out.blk 2 rfl) 2 (by show 2 < 8; decide)
      have hc3 : wd.cell? ⟨g_s, 3, none⟩ = some (.int .u32 vv.d) := cellN (l := vv.l) (HPd.out.blk 2 rfl) 3 (by show 3 < 8; decide)
      have hc4 : wd.cell? ⟨g_s, 4, none⟩ = some (.int .u32 vv.e) := cellN (l := vv.l) (HPd.out.blk 2 rfl) 4 (by show 4 < 8; decide)
      have hc5 : wd.cell? ⟨g_s, 5, none⟩ = some (.int .u32 vv.f) := cellN (l := vv.l) (HPd.out.blk 2 rfl) 5 (by show 5 < 8; decide)
      have hc6 : wd.cell? ⟨g_s, 6, none⟩ = some (.int .u32 vv.g) := cellN (l := vv.l) (HPd.out.blk 2 rfl) 6 (by show 6 < 8; decide)
      have hc7 : wd.cell? ⟨g_s, 7, none⟩ = some (.int .u32 vv.h) := cellN (l := vv.l) (HPd.out.blk 2 rfl) 7 (by show 7 < 8; decide)
      obtain ⟨i5, hi5, _, hsz5, _⟩ := info_parts info5
      have hcutA := cut_to (P := Try.prog) 26 5 .i64 Try.underlying26 hi5 A2 r.length c2 64 (by decide) (by omega) HC2.out
      have hcutB := cut_from (P := Try.prog) 26 5 .i64 Try.underlying26 hi5 1 hsz5 A2 r.length c2 64 (by decide) (by omega)
      rw [show (64 : Int).toNat = 64 from rfl] at hcutA hcutB
      obtain ⟨A3, hA3⟩ : ∃ A3, (if c2 = 64 then A2 else A2.map (·.add (64 * 1))) = A3 := ⟨_, rfl⟩
      rw [hA3, show r.length - 64 = (r.drop 64).length from (List.length_drop ..).symm] at hcutB
      obtain ⟨c3, hc3⟩ : ∃ c3, c2 - 64 = c3 := ⟨_, rfl⟩
      rw [hc3] at hcutB
      have htl : (r.take 64).length = 64 := by rw [List.length_take]; omega
      have CB := c_block vv (r.take 64) htl (fun x hx => HBR.out x (List.mem_of_mem_take hx)) A2 c2 A_k c_k wd (by rw [htl]; have h1 := Kd.C_take (m := 64) (HCC.out wd vv.l HPd.out) (by omega); rw [htl] at h1; exact h1) (by rw [htl]; have := HC2.out; omega) (Kd.R_reads' (HPd.out.row 0 rfl)).2.2
      rw [htl] at CB
      have CBA := Aside0.mk CB
      have HRL := Aside0.mk hrl
      have HFN := Aside0.mk (show foldB q (behV vv (r.take 64)) (r.drop 64) = foldB n H0 M from HFB.out)
      have HLN := Aside0.mk (show (r.drop 64).length = 64 * q by rw [List.length_drop]; omega)
      have HBN := Aside0.mk (show Bytes (r.drop 64) from fun x hx => HBR.out x (List.mem_of_mem_drop hx))
      have HCN := Aside0.mk (show (r.drop 64).length ≤ c3 by rw [List.length_drop, ← hc3]; have := HC2.out; omega)
      have HCCN := Aside0.mk (fun (w' : World) (l : List Int) (hp : Hp w w' [.row (Kd.int .u32) 110 w.heap.size (.slice A_k KW.length c_k) KW, .row (Kd.int .u8) 5 w.heap.size (.slice A_m M.length c_m) M, .blk g_s (.cells (u32s l).toArray 112 (0, 0)), .blk g_o (.cells (u8s (List.replicate 32 0)).toArray 23 (0, 0))]) => (show Kd.C (Kd.int .u8) w' A3 (r.drop 64).length (r.drop 64) from by
        rw [← hA3]; exact Kd.C_drop (m := 64) (c := c2) (HCC.out w' l hp) (by omega) HC2.out))
      have hge : (64 : Int) ≤ (r.length : Int) := by omega
      clear CB hrl htl hA3 hc3
      go_wp2
      refine still_mix 4 [4, 5] (by kernel_rfl) (by kernel_rfl) hwd (fun N _ _ _ _ h => by cases N <;> exact h) ?_
      simp only [List.take_succ_cons, List.take_zero, List.drop_succ_cons, List.drop_zero]
      repeat (refine wpVal_step (fun K hK => ?_); go_simp; refine hK _ ?_; clear hK K)
      refine wpVal_nil ?_
      go_wp2_with (first | (go_at_call 67; refine CBA.out.mono ?_; rintro e w4 ⟨rfl, hb4⟩; have HPf := Aside0.mk (HPd.out.call hb4); clear hb4) | ((with_reducible refine gate_store (t := 112) (p := 3) rfl ?_); refine ev_store rfl 112 (.tmp 3) (.tmp 21) rfl rfl _ rfl (cells := (u32s (behV vv (r.take 64)).l).toArray) (by rw [behV_l]; rfl) (HPf.out.blk 2 rfl) (by rw [List.size_toArray, u32s_len, behV_l, behI_len]; kernel_rfl) (by rw [List.size_toArray, List.size_toArray, u32s_len, u32s_len, behV_l, behI_len]; rfl) (one_u32 _) ?_; intro w5 hg5 hgr5; have HPg := Aside0.mk (HPf.out.setB 2 rfl hgr5 hg5); clear hg5 hgr5))
      go_roundg q
      case measure => omega
      case rel => exact ⟨r.drop 64, A3, c3, behV vv (r.take 64), by rw [List.length_drop], HLN, HBN, HCN, HFN, HCCN, HPg⟩
    · obtain rfl : r = [] := List.eq_nil_of_length_eq_zero (by omega)
      have hgk : gk = 0 := by have := HL.out; simp at this; omega
      subst hgk
      have HV := Aside0.mk (show vv = foldB n H0 M from HFB.out)
      have d0 : decide ((0 : Int) < (([] : List Int).length : Int)) = false := by decide
      have hc0 : wr.cell? ⟨g_s, 0, none⟩ = some (.int .u32 vv.a) := cellN (l := vv.l) (HP.out.blk 2 rfl) 0 (by show 0 < 8; decide)
      have hc1 : wr.cell? ⟨g_s, 1, none⟩ = some (.int .u32 vv.b) := cellN (l := vv.l) (HP.out.blk 2 rfl) 1 (by show 1 < 8; decide)
      have hc2 : wr.cell? ⟨g_s, 2, none⟩ = some (.int .u32 vv.c) := cellN (l := vv.l) (HP.out.blk 2 rfl) 2 (by show 2 < 8; decide)
      have hc3 : wr.cell? ⟨g_s, 3, none⟩ = some (.int .u32 vv.d) := cellN (l := vv.l) (HP.out.blk 2 rfl) 3 (by show 3 < 8; decide)
      have hc4 : wr.cell? ⟨g_s, 4, none⟩ = some (.int .u32 vv.e) := cellN (l := vv.l) (HP.out.blk 2 rfl) 4 (by show 4 < 8; decide)
      have hc5 : wr.cell? ⟨g_s, 5, none⟩ = some (.int .u32 vv.f) := cellN (l := vv.l) (HP.out.blk 2 rfl) 5 (by show 5 < 8; decide)
      have hc6 : wr.cell? ⟨g_s, 6, none⟩ = some (.int .u32 vv.g) := cellN (l := vv.l) (HP.out.blk 2 rfl) 6 (by show 6 < 8; decide)
      have hc7 : wr.cell? ⟨g_s, 7, none⟩ = some (.int .u32 vv.h) := cellN (l := vv.l) (HP.out.blk 2 rfl) 7 (by show 7 < 8; decide)
      have V32 := Aside0.mk (show ∀ q : Nat, 0 ≤ rd vv.l q ∧ rd vv.l q < 4294967296 from by rw [HV.out]; exact foldB_u32 n M)
      clear HFB HCC HC2 HBR HL h0
      go_wp2
      have HPa := Aside0.mk ((HP.out.alloc (.cells (u32s vv.l).toArray 110 (0, 0))).alloc (.cells (u8s (List.replicate 32 0)).toArray 23 (0, 0)))
      clear HP hc0 hc1 hc2 hc3 hc4 hc5 hc6 hc7
      have ho : ∃ wo, (wr.alloc (.cells (u32s vv.l).toArray 110 (0, 0))).alloc (.cells (u8s (List.replicate 32 0)).toArray 23 (0, 0)) = wo := ⟨_, rfl⟩
      obtain ⟨wo, hwo⟩ := ho
      rw [hwo] at HPa
      obtain ⟨g_t, hgt⟩ : ∃ g, (wr.alloc (.cells (u32s vv.l).toArray 110 (0, 0))).heap.size = g := ⟨_, rfl⟩
      obtain ⟨g_l, hgl⟩ : ∃ g, wr.heap.size = g := ⟨_, rfl⟩
      have hgt2 : wr.heap.size + 1 = g_t := by rw [← hgt]; exact (Array.size_push ..).symm
      rw [hgt, hgl] at HPa
      have hwo2 : (wr.alloc (.cells #[.int .u32 vv.a, .int .u32 vv.b, .int .u32 vv.c, .int .u32 vv.d, .int .u32 vv.e, .int .u32 vv.f, .int .u32 vv.g, .int .u32 vv.h] 110)).alloc (.cells #[.int .u8 0, .int .u8 0, .int .u8 0, .int .u8 0, .int .u8 0, .int .u8 0, .int .u8 0, .int .u8 0, .int .u8 0, .int .u8 0, .int .u8 0, .int .u8 0, .int .u8 0, .int .u8 0, .int .u8 0, .int .u8 0, .int .u8 0, .int .u8 0, .int .u8 0, .int .u8 0, .int .u8 0, .int .u8 0, .int .u8 0, .int .u8 0, .int .u8 0, .int .u8 0, .int .u8 0, .int .u8 0, .int .u8 0, .int .u8 0, .int .u8 0, .int .u8 0] 23) = wo := hwo
      rw [hwo2, hgt2, hgl]
      have hne1 : ¬ g_l = g_t := by omega
      have hne2 : ¬ g_t = g_l := by omega
      clear hwo2 hwo hgt2 hgt hgl d0
      go_loopg [8, 9] 8 (fun kq v8 v9 w' => ∃ (i : Nat) (x : Int) (l o : List Int), v8 = .int .i64 x ∧ Aside0 (x = (i : Int)) ∧ Aside0 (kq + i = 8) ∧ Aside0 (l.length = 8 ∧ ∀ q : Nat, i ≤ q → rd l q = rd vv.l q) ∧ Aside0 (o.length = 32 ∧ ∀ q : Nat, q < 4 * i → rd o q = byteI vv.l q) ∧ Aside0 (Hp w w' [.blk g_t (.cells (u8s o).toArray 23 (0, 0)), .blk g_l (.cells (u32s l).toArray 110 (0, 0)), .row (Kd.int .u32) 110 w.heap.size (.slice A_k KW.length c_k) KW, .row (Kd.int .u8) 5 w.heap.size (.slice A_m M.length c_m) M, .blk g_s (.cells (u32s vv.l).toArray 112 (0, 0)), .blk g_o (.cells (u8s (List.replicate 32 0)).toArray 23 (0, 0))]))
      case atStart => exact ⟨0, 0, vv.l, List.replicate 32 0, rfl, ⟨rfl⟩, ⟨rfl⟩, ⟨rfl, fun q _ => rfl⟩, ⟨rfl, fun q h => absurd h (by omega)⟩, HPa⟩
      clear HPa
      obtain ⟨i, x, l, o, rfl, HX, HK, HL, HO, HP⟩ := hrel
      have hx := HX.out
      by_cases c2 : i < 8
      · have d1 : decide (x < 8) = true := decide_eq_true (by omega)
        have px : 0 ≤ x := by omega
        have qx : x < 8 := by omega
        have ex := i64k (x := x + 1) rfl (by omega)
        have HC2 := Aside0.mk c2
        clear hx c2
        go_wp2
        go_loopg [9] 4 (fun kq v9 w' => ∃ (k : Nat) (y : Int) (l o : List Int), v9 = .int .i64 y ∧ Aside0 (y = 3 - (k : Int)) ∧ Aside0 (kq + k = 4) ∧ Aside0 (l.length = 8 ∧ (∀ q : Nat, i < q → rd l q = rd vv.l q) ∧ rd l i = rd vv.l i / 256 ^ k) ∧ Aside0 (o.length = 32 ∧ (∀ q : Nat, q < 4 * i → rd o q = byteI vv.l q) ∧ ∀ q : Nat, 4 * i + 4 - k ≤ q → q < 4 * i + 4 → rd o q = byteI vv.l q) ∧ Aside0 (Hp w w' [.blk g_t (.cells (u8s o).toArray 23 (0, 0)), .blk g_l (.cells (u32s l).toArray 110 (0, 0)), .row (Kd.int .u32) 110 w.heap.size (.slice A_k KW.length c_k) KW, .row (Kd.int .u8) 5 w.heap.size (.slice A_m M.length c_m) M, .blk g_s (.cells (u32s vv.l).toArray 112 (0, 0)), .blk g_o (.cells (u8s (List.replicate 32 0)).toArray 23 (0, 0))]))
        case atStart => exact ⟨0, 3, l, o, rfl, ⟨rfl⟩, ⟨rfl⟩, ⟨HL.out.1, fun q hq => HL.out.2 q (by omega), by rw [HL.out.2 i (Nat.le_refl _)]; simp⟩, ⟨HO.out.1, HO.out.2, fun q h1 h2 => absurd h2 (by omega)⟩, ⟨HP.out⟩⟩
        clear HP HL HO
        obtain ⟨k, y, l, o, rfl, HY, HJ, HL, HO, HP⟩ := hrel
        have hy := HY.out
        have hx := HX.out
        by_cases c3 : k < 4
        · have d2 : decide (0 ≤ y) = true := decide_eq_true (by omega)
          have ey := i64k (x := y - 1) rfl (by omega)
          obtain ⟨z0, hz0⟩ : ∃ z, 4 * x = z := ⟨_, rfl⟩
          have e0 := i64k hz0 (by omega)
          obtain ⟨z1, hz1⟩ : ∃ z, z0 + y = z := ⟨_, rfl⟩
          have e1 := i64k hz1 (by omega)
          have p1 : 0 ≤ z1 := by omega
          have q1 : z1 < 32 := by omega
          have hcl := cellL (HP.out.blk 1 rfl) x px (by rw [HL.out.1]; omega)
          have hfl := frozC (HP.out.blk 1 rfl) x.toNat
          have hco := cellL (HP.out.blk 0 rfl) z1 p1 (by rw [HO.out.1]; omega)
          have hfo := frozC (HP.out.blk 0 rfl) z1.toNat
          have HB4 := Aside0.mk c3
          have HZ := Aside0.mk (And.intro hz0 hz1)
          clear hy hx c3 hz0 hz1
          go_wp2
          have hlx : rd l x = rd vv.l i / 256 ^ k := by rw [HX.out]; exact HL.out.2.2
          have hv := V32.out i
          have hz1n : z1.toNat = 4 * i + 3 - k := by have := HZ.out.1; have := HZ.out.2; have := HX.out; have := HY.out; have := HB4.out; omega
          have hxn : x.toNat = i := by have := HX.out; omega
          obtain ⟨n0, hn0⟩ : ∃ n0, 4 * i + 3 - k = n0 := ⟨_, rfl⟩
          have hbyte : rd l x % 256 = byteI vv.l n0 := by
            unfold byteI
            rw [hlx, show n0 / 4 = i by have := HB4.out; omega, show 24 - 8 * (n0 % 4) = 8 * k by have := HB4.out; omega, show (2 : Int) ^ (8 * k) = 256 ^ k by rw [Int.pow_mul]; rfl]
          have hdiv : (rd l x).tdiv 256 % 4294967296 = rd vv.l i / 256 ^ (k + 1) := by
            have hnn : 0 ≤ rd vv.l i / 256 ^ k := Int.ediv_nonneg hv.1 (Int.pow_nonneg (by decide))
            have hle : rd vv.l i / 256 ^ k ≤ rd vv.l i := Int.ediv_le_self _ hv.1
            rw [hlx, Int.tdiv_eq_ediv_of_nonneg hnn, Int.pow_succ, ← Int.ediv_ediv_of_nonneg (Int.pow_nonneg (by decide)), Int.emod_eq_of_lt (Int.ediv_nonneg hnn (by decide)) (by omega)]
          have HPn := Aside0.mk ((HP.out.setCell 0 rfl n0 (.int .u8 (byteI vv.l n0))).setCell 1 rfl i (.int .u32 (rd vv.l i / 256 ^ (k + 1))))
          rw [show (u8s o).toArray.setIfInBounds n0 (.int .u8 (byteI vv.l n0)) = (u8s (o.set n0 (byteI vv.l n0))).toArray from setL (k := .u8) _ _ _, show (u32s l).toArray.setIfInBounds i (.int .u32 (rd vv.l i / 256 ^ (k + 1))) = (u32s (l.set i (rd vv.l i / 256 ^ (k + 1)))).toArray from setL (k := .u32) _ _ _, ← hbyte, ← hdiv] at HPn
          rw [hz1n, hxn, hn0]
          have hb4 := HB4.out
          have hi8 := HC2.out
          go_roundg (gk - 1)
          case measure => have := HJ.out; omega
          case rel => exact ⟨k + 1, y - 1, _, _, rfl, ⟨by have := HY.out; omega⟩, ⟨by have := HJ.out; omega⟩, ⟨by rw [List.length_set]; exact HL.out.1, fun q hq => by rw [rd_set_ne _ (by omega)]; exact HL.out.2.1 q hq, by rw [rd_set_eq _ (by rw [HL.out.1]; exact hi8)]; exact hdiv⟩, ⟨by rw [List.length_set]; exact HO.out.1, fun q hq => by rw [rd_set_ne _ (by omega)]; exact HO.out.2.1 q hq, fun q h1 h2 => by
            by_cases hq : q = n0
            · subst hq; rw [rd_set_eq _ (by rw [HO.out.1]; omega)]; exact hbyte
            · rw [rd_set_ne _ (fun h => hq h.symm)]; exact HO.out.2.2 q (by omega) h2⟩, HPn⟩
        · have d2 : decide (0 ≤ y) = false := decide_eq_false (by have := HJ.out; omega)
          obtain rfl : k = 4 := by have := HJ.out; omega
          have hi8 := HC2.out
          clear hx hy c3
          go_wp2
          go_roundg (7 - i)
          case measure => have := HK.out; omega
          case rel => exact ⟨i + 1, x + 1, l, o, by simp, ⟨by have := HX.out; omega⟩, ⟨by have := HK.out; omega⟩, ⟨HL.out.1, fun q hq => HL.out.2.1 q (by omega)⟩, ⟨HO.out.1, fun q hq => by
            by_cases h : q < 4 * i
            · exact HO.out.2.1 q h
            · exact HO.out.2.2 q (by omega) (by omega)⟩, ⟨HP.out⟩⟩
      · have d1 : decide (x < 8) = false := decide_eq_false (by omega)
        obtain rfl : i = 8 := by have := HK.out; omega
        have ho : o = outI vv.l 32 := ext_rd (by rw [HO.out.1, outI_len _ _ (Nat.le_refl _)]) fun q hq => by
          rw [HO.out.2 q (by rw [HO.out.1] at hq; omega)]
          exact (rd_outI vv.l q (by rw [HO.out.1] at hq; omega)).symm
        subst ho
        clear hx c2 HX HK HO
        go_wp2_with (first | ((with_reducible refine gate_dst (N := 67) rfl ?_); refine ev_load rfl 23 (.tmp 7) rfl g_t rfl (HP.out.blk 0 rfl) Try.underlying23 rfl (by rw [List.size_toArray, u8s_len, outI_len _ _ (Nat.le_refl _)]; kernel_rfl) ?_) | ((with_reducible refine gate_store (t := 23) (p := 2) rfl ?_); refine ev_store rfl 23 (.tmp 2) (.tmp 67) rfl rfl _ rfl (cells := (u8s (outI vv.l 32)).toArray) rfl (HP.out.blk 5 rfl) (by rw [List.size_toArray, u8s_len, outI_len _ _ (Nat.le_refl _)]; kernel_rfl) (by rw [List.size_toArray, List.size_toArray, u8s_len, u8s_len, outI_len _ _ (Nat.le_refl _)]; rfl) (one_u8 _) ?_; intro wn61 hg hgr; have HPn := Aside0.mk (HP.out.setB 5 rfl hgr hg); clear HP; have HP := HPn; clear HPn; clear hg hgr))
        refine bodyPost_ret (results_cell_row rfl _ _ g_o 23 (u8s (outI vv.l 32)).toArray (0, 0) _ rfl (HP.out.blk 5 rfl) Try.underlying23 rfl (by rw [List.size_toArray, u8s_len, outI_len _ _ (Nat.le_refl _)]; kernel_rfl)) rfl ?_
        exact ⟨by rw [HF.out, HV.out], HP.out.below⟩
end Go.Proofs.Ytgflghnbpbiakaa.H
