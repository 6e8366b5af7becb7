import Derived.Test.YtpnjbogpooejhaaH1
namespace Go.Proofs.Ytpnjbogpooejhaa.H
open Go.RowKit Go.Proofs.Ytpnjbogpooejhaa.XH Go.Proofs.YtpnjbogpooejhaaW.PrintWords Go.Proofs.YtpnjbogpooejhaaW.PrintLast Go.Proofs.YtpnjbogpooejhaaW.PrintMore Go.Proofs.YtpnjbogpooejhaaXe Go.Proofs.YtpnjbogpooejhaaXs
set_option linter.unusedVariables false
set_option linter.unusedSimpArgs false
attribute [local go_sem ↓] Go.wp_at_zero Go.wp_at_succ
section
variable {P : Program} {w wd : World} {id : Nat} {Q : Exit → Act → World → Prop} {a : Act} {l : List Oper}
theorem run_index_arr {P : Program} {w : World} {T e : TypeId} {n : Nat} {k k' : IntKind} {l : List Int} (hu : P.underlying T = some (.array n e)) (he : P.underlying e = some (.int k')) (hs : (P.info? e).map (·.size) = some 1) (hl : l.length = n) (x : Int) (h0 : 0 ≤ x) (h1 : x < n) : (Instr.index T (.agg (l.map (Value.int k)).toArray) (.int .i64 x)).run P w = .ok (.int k (rd l x)) w := by
  obtain ⟨i, hi, hsi⟩ := Option.map_eq_some_iff.1 hs
  have hx : x.toNat < l.length := by omega
  simp [Instr.index, asIntOf, run_underlying hu, h0, h1, sizeOf, typeInfo, hi, hsi, part, run_underlying he, isAgg, rd, hx]
theorem one_u32 (l : List Int) : (u32s l).toArray.all (·.oneCell') = true := by simp [u32s, Value.oneCell']
theorem still_lit (hm : P.follows .mixedOrders = true) (hB : Region.lexB .any l.toArray = true) (hw : w.drew = wd) (h : wpStill P l.toArray wd (fun a' => Q .normal a' wd) l a) : (Code.region id l.toArray true).wp P Q a w := by
  subst hw; exact wp_region_still_lit hm hB h
theorem still_tail (n : Nat) (hm : P.follows .mixedOrders = true) (hB : Region.lexTailB .any l.toArray n = true) (hw : w.drew = wd) (h : wpStill P l.toArray wd (fun a' => wpList P l.toArray Q (l.drop n) a' wd) (l.take n) a) : (Code.region id l.toArray true).wp P Q a w := by
  subst hw; exact wp_region_still_tail n hm hB h
end
/-- word i of a block -/
def word4 (a b c d : Int) : Int := Go.bits .or .u32 (Go.bits .or .u32 (Go.bits .or .u32 (a % 4294967296 * 16777216 % 4294967296) (b % 4294967296 * 65536 % 4294967296)) (c % 4294967296 * 256 % 4294967296)) (d % 4294967296)
def word (b : List Int) (i : Nat) : Int := word4 (rd b (4 * i)) (rd b (4 * i + 1)) (rd b (4 * i + 2)) (rd b (4 * i + 3))
/-- the first i words -/
def w1I (b : List Int) (i : Nat) : List Int := (List.range i).map (word b) ++ List.replicate (64 - i) 0
theorem w1I_len (b : List Int) (i : Nat) (h : i ≤ 64) : (w1I b i).length = 64 := by simp [w1I]; omega
theorem w1I_step (b : List Int) (i : Nat) (h : i < 64) : (w1I b i).set i (word b i) = w1I b (i + 1) := by
  unfold w1I
  obtain ⟨m, hm⟩ : ∃ m, 64 - i = m + 1 := ⟨63 - i, by omega⟩
  have h2 : 64 - (i + 1) = m := by omega
  rw [hm, h2, List.range_succ, List.map_append, List.append_assoc, List.set_append_right _ _ (by simp)]
  simp [List.replicate_succ]
/-- the next word out of those that are there -/
def nextI (x16 p x7 q : Int) : Int := (x16 + Go.bits .xor .u32 (Go.bits .xor .u32 (rot p 7) (rot p 18)) (p / 8) + x7 + Go.bits .xor .u32 (Go.bits .xor .u32 (rot q 17) (rot q 19)) (q / 1024)) % 4294967296
def w2I (b : List Int) : Nat → List Int
  | 0 => w1I b 16
  | j + 1 => (w2I b j).set (j + 16) (nextI (rd (w2I b j) j) (rd (w2I b j) (j + 1)) (rd (w2I b j) (j + 9)) (rd (w2I b j) (j + 14)))
theorem w2I_len (b : List Int) : ∀ j, (w2I b j).length = 64
  | 0 => w1I_len b 16 (by omega)
  | j + 1 => by rw [w2I, List.length_set]; exact w2I_len b j
structure V8 where
  (a b c d e f g h : Int)
/-- the bits of a word, turned over -/
def notI (x : Int) : Int := Go.bits .xor .u32 (if IntKind.u32.signed = true then -1 else IntKind.u32.max) x
/-- the sum of a round -/
def sumI (v : V8) (k w : Int) : Int := IntKind.u32.wrap (IntKind.u32.wrap (IntKind.u32.wrap (IntKind.u32.wrap (v.h + Go.bits .xor .u32 (Go.bits .xor .u32 (rot v.e 6) (rot v.e 11)) (rot v.e 25)) + Go.bits .xor .u32 (Go.bits .and .u32 v.e v.f) (Go.bits .and .u32 (Go.bits .xor .u32 (if IntKind.u32.signed = true then -1 else IntKind.u32.max) v.e) v.g)) + k) + w)
def V8.l (v : V8) : List Int := [v.a, v.b, v.c, v.d, v.e, v.f, v.g, v.h]
/-- a round -/
def rndI (v : V8) (k w : Int) : V8 :=
  ⟨(sumI v k w + (Go.bits .xor .u32 (Go.bits .xor .u32 (rot v.a 2) (rot v.a 13)) (rot v.a 22) + Go.bits .xor .u32 (Go.bits .xor .u32 (Go.bits .and .u32 v.a v.b) (Go.bits .and .u32 v.a v.c)) (Go.bits .and .u32 v.b v.c))) % 4294967296, v.a, v.b, v.c, (v.d + sumI v k w) % 4294967296, v.e, v.f, v.g⟩
def rndsI (v : V8) (ks ws : List Int) : Nat → V8
  | 0 => v
  | j + 1 => rndI (rndsI v ks ws j) (rd ks j) (rd ws j)
def addI (s x : List Int) : Nat → List Int
  | 0 => s
  | j + 1 => (addI s x j).set j ((rd (addI s x j) j + rd x j) % 4294967296)
theorem addI_len (s x : List Int) : ∀ j, (addI s x j).length = s.length
  | 0 => rfl
  | j + 1 => by rw [addI, List.length_set]; exact addI_len s x j
/-- the state behind 64 bytes -/
def behI (v : V8) (b : List Int) : List Int := addI v.l (rndsI v KW (w2I b 48) 64).l 8

set_option maxHeartbeats 8000000 in
set_option maxRecDepth 100000 in
theorem c_beh (s0 s1 s2 s3 s4 s5 s6 s7 : Int) (b : List Int) (hb : b.length = 64) (A : Option Addr) (c : Nat) (w : World) (hr : Kd.C (Kd.int .u8) w A b.length b) (hc : b.length ≤ c) :
    Calls Try.prog 32 #[.agg #[.int .u32 s0, .int .u32 s1, .int .u32 s2, .int .u32 s3, .int .u32 s4, .int .u32 s5, .int .u32 s6, .int .u32 s7], .slice A b.length c] w fun e w' => e = .returned (.agg (u32s (behI ⟨s0, s1, s2, s3, s4, s5, s6, s7⟩ b)).toArray) ∧ Below w.heap.size w w' := by
  have HR := Aside0.mk hr
  have HC := Aside0.mk hc
  have HBL := Aside0.mk hb
  clear hr hc hb
  have HP := Aside0.mk (Hp.start w)
  go_enter Try.func32, Try.ntmps32
  go_wp2_with (first | ((with_reducible refine gate_dst (N := 2) rfl ?_); refine ev_box rfl 49 (.tmp 0) rfl #[.int .u32 s0, .int .u32 s1, .int .u32 s2, .int .u32 s3, .int .u32 s4, .int .u32 s5, .int .u32 s6, .int .u32 s7] rfl ?_; intro g_s wn1 hge hg hb; have HPn := Aside0.mk (HP.out.newB hb hg hge); clear HP; have HP := HPn; clear HPn; clear hge hg hb) | ((with_reducible refine gate_dst (N := 4) rfl ?_); refine ev_alloc rfl 49 rfl (.agg (u32s (List.replicate 8 0)).toArray) (by kernel_rfl) ?_; intro g_o wn2 hge hg hb; have HPn := Aside0.mk (HP.out.newB hb hg hge); clear HP; have HP := HPn; clear HPn; clear hge hg hb) | ((with_reducible refine gate_dst (N := 5) rfl ?_); refine ev_alloc rfl 69 rfl (.agg (u32s (List.replicate 64 0)).toArray) (by kernel_rfl) ?_; intro g_w wn3 hge hg hb; have HPn := Aside0.mk (HP.out.newB hb hg hge); clear HP; have HP := HPn; clear HPn; clear hge hg hb))
  have HP1 := Aside0.mk (show Hp w wn3 [.blk g_w (.cells (u32s (w1I b 0)).toArray 69 (0, 0)), .blk g_o (.cells (u32s (List.replicate 8 0)).toArray 49 (0, 0)), .blk g_s (.cells (u32s [s0, s1, s2, s3, s4, s5, s6, s7]).toArray 49 (0, 0))] from HP.out)
  clear HP
  go_loopg [6, 23] 16 (fun kq v6 v23 w' => ∃ (i : Nat), v23 = .int .i64 i ∧ Aside0 (kq + i = 16) ∧ Aside0 (Hp w w' [.blk g_w (.cells (u32s (w1I b i)).toArray 69 (0, 0)), .blk g_o (.cells (u32s (List.replicate 8 0)).toArray 49 (0, 0)), .blk g_s (.cells (u32s [s0, s1, s2, s3, s4, s5, s6, s7]).toArray 49 (0, 0))]))
  case atStart => exact ⟨0, rfl, ⟨rfl⟩, HP1⟩
  case round =>
    clear HP1
    obtain ⟨i, rfl, HK, HP⟩ := hrel
    by_cases c1 : i < 16
    · have d1 : decide (i < 16) = true := decide_eq_true c1
      have d1i : decide ((i : Int) < 16) = true := decide_eq_true (by omega)
      obtain ⟨y0, hy0⟩ : ∃ y, 4 * (i : Int) = y := ⟨_, rfl⟩
      obtain ⟨y1, hy1⟩ : ∃ y, y0 + 1 = y := ⟨_, rfl⟩
      obtain ⟨y2, hy2⟩ : ∃ y, y0 + 2 = y := ⟨_, rfl⟩
      obtain ⟨y3, hy3⟩ : ∃ y, y0 + 3 = y := ⟨_, rfl⟩
      have e0 := i64k hy0 (by omega)
      have e1 := i64k hy1 (by omega)
      have e2 := i64k hy2 (by omega)
      have e3 := i64k hy3 (by omega)
      have hbl := HBL.out
      have p0 : 0 ≤ y0 := by omega
      have q0 : y0 < (b.length : Int) := by omega
      have p1 : 0 ≤ y1 := by omega
      have q1 : y1 < (b.length : Int) := by omega
      have p2 : 0 ≤ y2 := by omega
      have q2 : y2 < (b.length : Int) := by omega
      have p3 : 0 ≤ y3 := by omega
      have q3 : y3 < (b.length : Int) := by omega
      obtain ⟨wd, hwd⟩ : ∃ z_ : World, wr.drew = z_ := ⟨_, rfl⟩
      have HPd := Aside0.mk (HP.out.drewN 1)
      rw [← World.drew_is_drewN, hwd] at HPd
      have hCd := Kd.C_below HR.out HPd.out.below
      obtain ⟨ad, rfl, hx0⟩ := Kd.at_int hCd y0 p0 q0
      obtain ⟨ad1, e, hx1⟩ := Kd.at_int hCd y1 p1 q1
      cases e
      obtain ⟨ad2, e, hx2⟩ := Kd.at_int hCd y2 p2 q2
      cases e
      obtain ⟨ad3, e, hx3⟩ := Kd.at_int hCd y3 p3 q3
      cases e
      clear hbl hCd
      have HY := Aside0.mk (And.intro hy0 (And.intro hy1 (And.intro hy2 hy3)))
      clear hy0 hy1 hy2 hy3
      have hi64 : i < 64 := by omega
      have hi64' : (i : Int) < 64 := by omega
      have hi0 : (0 : Int) ≤ (i : Int) := by omega
      have hwc : wd.cell? ⟨g_w, i, none⟩ = some (.int .u32 (rd (w1I b i) i)) := cellN (HPd.out.blk 0 rfl) i (by rw [w1I_len b i (by omega)]; omega)
      have hwf := frozC (HPd.out.blk 0 rfl) i
      go_wp2
      refine still_tail 35 (by kernel_rfl) (by kernel_rfl) hwd ?_
      simp only [List.take_succ_cons, List.take_zero, List.drop_succ_cons, List.drop_zero]
      repeat still_step
      refine wpStill_nil ?_
      go_wp2
      have hwd4 : word4 (rd b y0) (rd b y1) (rd b y2) (rd b y3) = word b i := by
        obtain ⟨z0, z1, z2, z3⟩ := HY.out
        unfold word
        rw [← z1, ← z2, ← z3, ← z0]
      have HPn := Aside0.mk (HPd.out.setCell 0 rfl i (.int .u32 (word b i)))
      rw [show (u32s (w1I b i)).toArray.setIfInBounds i (.int .u32 (word b i)) = (u32s (w1I b (i + 1))).toArray from by rw [← w1I_step b i (by omega)]; exact setL (k := .u32) _ _ _] at HPn
      rw [← hwd4] at HPn
      go_roundg (gk - 1)
      case measure => have := HK.out; omega
      case rel => exact ⟨i + 1, by simp, ⟨by have := HK.out; omega⟩, ⟨HPn.out⟩⟩
    · have d1 : decide (i < 16) = false := decide_eq_false c1
      have d1i : decide ((i : Int) < 16) = false := decide_eq_false (by omega)
      obtain rfl : i = 16 := by have := HK.out; omega
      clear c1 d1 d1i HK
      have HP2 := Aside0.mk (show Hp w wr [.blk g_w (.cells (u32s (w2I b 0)).toArray 69 (0, 0)), .blk g_o (.cells (u32s (List.replicate 8 0)).toArray 49 (0, 0)), .blk g_s (.cells (u32s [s0, s1, s2, s3, s4, s5, s6, s7]).toArray 49 (0, 0))] from HP.out)
      clear HP
      go_wp2
      go_loopg [7, 8, 9] 48 (fun kq v7 v8 v9 w' => ∃ (j : Nat) (x : Int), v7 = .int .i64 x ∧ Aside0 (x = (j : Int) + 16) ∧ Aside0 (kq + j = 48) ∧ Aside0 (Hp w w' [.blk g_w (.cells (u32s (w2I b j)).toArray 69 (0, 0)), .blk g_o (.cells (u32s (List.replicate 8 0)).toArray 49 (0, 0)), .blk g_s (.cells (u32s [s0, s1, s2, s3, s4, s5, s6, s7]).toArray 49 (0, 0))]))
      case atStart => exact ⟨0, 16, rfl, ⟨rfl⟩, ⟨rfl⟩, HP2⟩
      clear HP2
      obtain ⟨j, x, rfl, HX, HK, HP⟩ := hrel
      have hx := HX.out
      by_cases c2 : j < 48
      · have d1 : decide (x < 64) = true := decide_eq_true (by omega)
        have px : 0 ≤ x := by omega
        have qx : x < 64 := by omega
        have ex := i64k (x := x + 1) rfl (by omega)
        obtain ⟨ya, hya⟩ : ∃ y, x - 15 = y := ⟨_, rfl⟩
        have eya := i64k hya (by omega)
        have pya : 0 ≤ ya := by omega
        have qya : ya < 64 := by omega
        obtain ⟨yb, hyb⟩ : ∃ y, x - 2 = y := ⟨_, rfl⟩
        have eyb := i64k hyb (by omega)
        have pyb : 0 ≤ yb := by omega
        have qyb : yb < 64 := by omega
        obtain ⟨yc, hyc⟩ : ∃ y, x - 16 = y := ⟨_, rfl⟩
        have eyc := i64k hyc (by omega)
        have pyc : 0 ≤ yc := by omega
        have qyc : yc < 64 := by omega
        obtain ⟨yd, hyd⟩ : ∃ y, x - 7 = y := ⟨_, rfl⟩
        have eyd := i64k hyd (by omega)
        have pyd : 0 ≤ yd := by omega
        have qyd : yd < 64 := by omega
        have HY := Aside0.mk (And.intro hya (And.intro hyb (And.intro hyc hyd)))
        clear hya hyb hyc hyd
        obtain ⟨wd, hwd⟩ : ∃ z_ : World, wr.drew = z_ := ⟨_, rfl⟩
        have HPd := Aside0.mk (HP.out.drewN 1)
        rw [← World.drew_is_drewN, hwd] at HPd
        obtain ⟨we, hwe⟩ : ∃ z_ : World, wd.drew = z_ := ⟨_, rfl⟩
        have HPe := Aside0.mk (HPd.out.drewN 1)
        rw [← World.drew_is_drewN, hwe] at HPe
        have hl := w2I_len b j
        have hca := cellL (HPd.out.blk 0 rfl) ya pya (by rw [hl]; omega)
        have hcb := cellL (HPd.out.blk 0 rfl) yb pyb (by rw [hl]; omega)
        have hcc := cellL (HPe.out.blk 0 rfl) yc pyc (by rw [hl]; omega)
        have hcd := cellL (HPe.out.blk 0 rfl) yd pyd (by rw [hl]; omega)
        have hcx := cellL (HPe.out.blk 0 rfl) x px (by rw [hl]; omega)
        have hfx := frozC (HPe.out.blk 0 rfl) x.toNat
        clear hl hx
        go_wp2
        refine still_lit (by kernel_rfl) (by kernel_rfl) hwd ?_
        repeat still_step
        refine wpStill_nil ?_
        go_wp2
        refine still_tail 29 (by kernel_rfl) (by kernel_rfl) hwe ?_
        simp only [List.take_succ_cons, List.take_zero, List.drop_succ_cons, List.drop_zero]
        still_step
        still_step
        still_step
        still_step
        still_step
        still_step
        still_call (c_rot _ 7 (by decide) (by decide) _)
        still_step
        still_call (c_rot _ 18 (by decide) (by decide) _)
        still_step
        still_step
        still_step
        still_step
        still_step
        still_step
        still_step
        still_step
        still_step
        still_step
        still_step
        still_call (c_rot _ 17 (by decide) (by decide) _)
        still_step
        still_call (c_rot _ 19 (by decide) (by decide) _)
        still_step
        still_step
        still_step
        still_step
        still_step
        still_step
        refine wpStill_nil ?_
        go_wp2
        have hxn : x.toNat = j + 16 := by have := HX.out; omega
        have hnx : nextI (rd (w2I b j) yc) (rd (w2I b j) ya) (rd (w2I b j) yd) (rd (w2I b j) yb) = nextI (rd (w2I b j) j) (rd (w2I b j) (j + 1)) (rd (w2I b j) (j + 9)) (rd (w2I b j) (j + 14)) := by
          obtain ⟨z0, z1, z2, z3⟩ := HY.out
          have := HX.out
          rw [show yc = (j : Int) by omega, show ya = (j : Int) + 1 by omega, show yd = (j : Int) + 9 by omega, show yb = (j : Int) + 14 by omega]
        have HPn := Aside0.mk (HPe.out.setCell 0 rfl (j + 16) (.int .u32 (nextI (rd (w2I b j) j) (rd (w2I b j) (j + 1)) (rd (w2I b j) (j + 9)) (rd (w2I b j) (j + 14)))))
        rw [show (u32s (w2I b j)).toArray.setIfInBounds (j + 16) (.int .u32 (nextI (rd (w2I b j) j) (rd (w2I b j) (j + 1)) (rd (w2I b j) (j + 9)) (rd (w2I b j) (j + 14)))) = (u32s (w2I b (j + 1))).toArray from setL (k := .u32) _ _ _] at HPn
        rw [← hnx, ← hxn] at HPn
        go_roundg (gk - 1)
        case measure => have := HK.out; omega
        case rel => exact ⟨j + 1, x + 1, by simp, ⟨by have := HX.out; omega⟩, ⟨by have := HK.out; omega⟩, ⟨HPn.out⟩⟩
      · have d1 : decide (x < 64) = false := decide_eq_false (by omega)
        obtain rfl : j = 48 := by have := HK.out; omega
        clear c2 hx HX HK
        go_wp2_with (first | ((with_reducible refine gate_dst (N := 103) rfl ?_); refine ev_load rfl 49 (.tmp 2) rfl g_s rfl (HP.out.blk 2 rfl) Try.underlying49 rfl (by kernel_rfl) ?_) | ((with_reducible refine gate_dst (N := 10) rfl ?_); refine ev_alloc rfl 49 rfl (.agg (u32s (List.replicate 8 0)).toArray) (by kernel_rfl) ?_; intro g_x wn6 hge hg hb; have HPn := Aside0.mk (HP.out.newB hb hg hge); clear HP; have HP := HPn; clear HPn; clear hge hg hb) | ((with_reducible refine gate_store (t := 49) (p := 10) rfl ?_); refine ev_store rfl 49 (.tmp 10) (.tmp 103) rfl rfl _ rfl (cells := (u32s [s0, s1, s2, s3, s4, s5, s6, s7]).toArray) rfl (HP.out.blk 0 rfl) (by kernel_rfl) (by kernel_rfl) (by kernel_rfl) ?_; intro wn7 hg hgr; have HPn := Aside0.mk (HP.out.setB 0 rfl hgr hg); clear HP; have HP := HPn; clear HPn; clear hg hgr))
        (with_reducible refine (c_words _).mono ?_); rintro e wn8 ⟨rfl, hb⟩; have HPn := Aside0.mk (HP.out.call hb); clear HP; have HP := HPn; clear HPn; clear hb
        go_wp2_with fail
        go_wp2
        have HP3 := Aside0.mk (show Hp w wn8 [.blk g_x (.cells (u32s [s0, s1, s2, s3, s4, s5, s6, s7]).toArray 49 (0, 0)), .blk g_w (.cells (u32s (w2I b 48)).toArray 69 (0, 0)), .blk g_o (.cells (u32s (List.replicate 8 0)).toArray 49 (0, 0)), .blk g_s (.cells (u32s [s0, s1, s2, s3, s4, s5, s6, s7]).toArray 49 (0, 0))] from HP.out)
        clear HP
        go_loopg [11, 12, 13, 14, 15, 16, 17, 18, 19, 20, 21, 105] 64 (fun kq v11 v12 v13 v14 v15 v16 v17 v18 v19 v20 v21 v105 w' => ∃ (i : Nat) (x : Int) (v : V8), v105 = .int .i64 x ∧ Aside0 (x = (i : Int)) ∧ Aside0 (kq + i = 64) ∧ Aside0 (v = rndsI ⟨s0, s1, s2, s3, s4, s5, s6, s7⟩ KW (w2I b 48) i) ∧ Aside0 (Hp w w' [.blk g_x (.cells (u32s v.l).toArray 49 (0, 0)), .blk g_w (.cells (u32s (w2I b 48)).toArray 69 (0, 0)), .blk g_o (.cells (u32s (List.replicate 8 0)).toArray 49 (0, 0)), .blk g_s (.cells (u32s [s0, s1, s2, s3, s4, s5, s6, s7]).toArray 49 (0, 0))]))
        case atStart => exact ⟨0, 0, ⟨s0, s1, s2, s3, s4, s5, s6, s7⟩, rfl, ⟨rfl⟩, ⟨rfl⟩, ⟨rfl⟩, HP3⟩
        clear HP3
        obtain ⟨i, x, v, rfl, HX, HK, HV, HP⟩ := hrel
        have hx := HX.out
        by_cases c3 : i < 64
        · have d1 : decide (x < 64) = true := decide_eq_true (by omega)
          have px : 0 ≤ x := by omega
          have qx : x < 64 := by omega
          have ex := i64k (x := x + 1) rfl (by omega)
          obtain ⟨wd, hwd⟩ : ∃ z_ : World, wr.drew = z_ := ⟨_, rfl⟩
          have HPd := Aside0.mk (HP.out.drewN 1)
          rw [← World.drew_is_drewN, hwd] at HPd
          obtain ⟨we, hwe⟩ : ∃ z_ : World, wd.drew = z_ := ⟨_, rfl⟩
          have HPe := Aside0.mk (HPd.out.drewN 1)
          rw [← World.drew_is_drewN, hwe] at HPe
          have hl := w2I_len b 48
          have hcw := cellL (HPe.out.blk 1 rfl) x px (by rw [hl]; omega)
          have hc0 : wd.cell? ⟨g_x, 0, none⟩ = some (.int .u32 v.a) := cellN (l := v.l) (HPd.out.blk 0 rfl) 0 (by show 0 < 8; decide)
          have hc1 : wd.cell? ⟨g_x, 1, none⟩ = some (.int .u32 v.b) := cellN (l := v.l) (HPd.out.blk 0 rfl) 1 (by show 1 < 8; decide)
          have hc2 : wd.cell? ⟨g_x, 2, none⟩ = some (.int .u32 v.c) := cellN (l := v.l) (HPd.out.blk 0 rfl) 2 (by show 2 < 8; decide)
          have hc4 : wd.cell? ⟨g_x, 4, none⟩ = some (.int .u32 v.e) := cellN (l := v.l) (HPd.out.blk 0 rfl) 4 (by show 4 < 8; decide)
          have hc5 : wd.cell? ⟨g_x, 5, none⟩ = some (.int .u32 v.f) := cellN (l := v.l) (HPd.out.blk 0 rfl) 5 (by show 5 < 8; decide)
          have hc6 : wd.cell? ⟨g_x, 6, none⟩ = some (.int .u32 v.g) := cellN (l := v.l) (HPd.out.blk 0 rfl) 6 (by show 6 < 8; decide)
          have hc7 : wd.cell? ⟨g_x, 7, none⟩ = some (.int .u32 v.h) := cellN (l := v.l) (HPd.out.blk 0 rfl) 7 (by show 7 < 8; decide)
          have hix : (Instr.index 69 (.agg (u32s KW).toArray) (.int .i64 x)).run Try.prog wr = .ok (.int .u32 (rd KW x)) wr := run_index_arr Try.underlying69 Try.underlying47 (by kernel_rfl) rfl x px qx
          have hd3 : we.cell? ⟨g_x, 3, none⟩ = some (.int .u32 v.d) := cellN (l := v.l) (HPe.out.blk 0 rfl) 3 (by show 3 < 8; decide)
          clear hl hx HP
          have HP := HPe
          go_wp2
          refine still_lit (by kernel_rfl) (by kernel_rfl) hwd ?_
          repeat still_step
          refine wpStill_nil ?_
          go_wp2
          refine still_lit (by kernel_rfl) (by kernel_rfl) hwe ?_
          still_step
          still_step
          still_call (c_rot _ 6 (by decide) (by decide) _)
          still_step
          still_call (c_rot _ 11 (by decide) (by decide) _)
          still_step
          still_step
          still_call (c_rot _ 25 (by decide) (by decide) _)
          still_step
          still_step
          still_step
          still_step
          still_step
          still_step
          still_step
          still_step
          still_step
          still_step
          still_step
          still_step
          still_step
          still_step
          still_step
          still_step
          still_step
          still_step
          refine wpStill_nil ?_
          generalize hT : IntKind.u32.wrap (IntKind.u32.wrap (IntKind.u32.wrap (IntKind.u32.wrap (v.h + Go.bits .xor .u32 (Go.bits .xor .u32 (rot v.e 6) (rot v.e 11)) (rot v.e 25)) + Go.bits .xor .u32 (Go.bits .and .u32 v.e v.f) (Go.bits .and .u32 (Go.bits .xor .u32 (if IntKind.u32.signed = true then -1 else IntKind.u32.max) v.e) v.g)) + rd KW x) + rd (w2I b 48) x) = tv
          have HT := Aside0.mk hT
          clear hT
          go_wp2_with (first | (go_at_call 38; refine (c_rot _ _ (by decide) (by decide) _).mono ?_; rintro e w_ ⟨rfl, rfl⟩) | ((with_reducible refine gate_store (t := 49) (p := 10) rfl ?_); refine ev_store rfl 49 (.tmp 10) (.tmp 181) rfl rfl _ rfl (cells := (u32s (V8.l ⟨(tv + (Go.bits .xor .u32 (Go.bits .xor .u32 (rot v.a 2) (rot v.a 13)) (rot v.a 22) + Go.bits .xor .u32 (Go.bits .xor .u32 (Go.bits .and .u32 v.a v.b) (Go.bits .and .u32 v.a v.c)) (Go.bits .and .u32 v.b v.c))) % 4294967296, v.a, v.b, v.c, (v.d + tv) % 4294967296, v.e, v.f, v.g⟩)).toArray) rfl (HP.out.blk 0 rfl) (by kernel_rfl) (by rfl) (one_u32 _) ?_; intro wn11 hg hgr; have HPn := Aside0.mk (HP.out.setB 0 rfl hgr hg); clear HP; have HP := HPn; clear HPn; clear hg hgr))
          have hrv : (⟨(tv + (Go.bits .xor .u32 (Go.bits .xor .u32 (rot v.a 2) (rot v.a 13)) (rot v.a 22) + Go.bits .xor .u32 (Go.bits .xor .u32 (Go.bits .and .u32 v.a v.b) (Go.bits .and .u32 v.a v.c)) (Go.bits .and .u32 v.b v.c))) % 4294967296, v.a, v.b, v.c, (v.d + tv) % 4294967296, v.e, v.f, v.g⟩ : V8) = rndsI ⟨s0, s1, s2, s3, s4, s5, s6, s7⟩ KW (w2I b 48) (i + 1) := by
            rw [rndsI, ← HV.out, ← HX.out, ← HT.out]; rfl
          go_roundg (gk - 1)
          case measure => have := HK.out; omega
          case rel => exact ⟨i + 1, x + 1, _, by simp, ⟨by have := HX.out; omega⟩, ⟨by have := HK.out; omega⟩, ⟨hrv⟩, ⟨HP.out⟩⟩
        · have d1 : decide (x < 64) = false := decide_eq_false (by omega)
          obtain rfl : i = 64 := by have := HK.out; omega
          clear c3 hx HX HK
          go_wp2
          have HP4 := Aside0.mk (show Hp w wr [.blk g_x (.cells (u32s v.l).toArray 49 (0, 0)), .blk g_w (.cells (u32s (w2I b 48)).toArray 69 (0, 0)), .blk g_o (.cells (u32s (List.replicate 8 0)).toArray 49 (0, 0)), .blk g_s (.cells (u32s [s0, s1, s2, s3, s4, s5, s6, s7]).toArray 49 (0, 0))] from HP.out)
          clear HP
          go_loopg [22, 183] 8 (fun kq v22 v183 w' => ∃ (i : Nat) (x : Int), v183 = .int .i64 x ∧ Aside0 (x = (i : Int)) ∧ Aside0 (kq + i = 8) ∧ Aside0 (Hp w w' [.blk g_x (.cells (u32s v.l).toArray 49 (0, 0)), .blk g_w (.cells (u32s (w2I b 48)).toArray 69 (0, 0)), .blk g_o (.cells (u32s (List.replicate 8 0)).toArray 49 (0, 0)), .blk g_s (.cells (u32s (addI [s0, s1, s2, s3, s4, s5, s6, s7] v.l i)).toArray 49 (0, 0))]))
          case atStart => exact ⟨0, 0, rfl, ⟨rfl⟩, ⟨rfl⟩, HP4⟩
          clear HP4
          obtain ⟨i, x, rfl, HX, HK, HP⟩ := hrel
          have hx := HX.out
          by_cases c4 : i < 8
          · have d1 : decide (x < 8) = true := decide_eq_true (by omega)
            have px : 0 ≤ x := by omega
            have qx : x < 8 := by omega
            have ex := i64k (x := x + 1) rfl (by omega)
            obtain ⟨wd, hwd⟩ : ∃ z_ : World, wr.drew = z_ := ⟨_, rfl⟩
            have HPd := Aside0.mk (HP.out.drewN 1)
            rw [← World.drew_is_drewN, hwd] at HPd
            have hl : (addI [s0, s1, s2, s3, s4, s5, s6, s7] v.l i).length = 8 := addI_len _ _ _
            have hxl : v.l.length = 8 := rfl
            have hcx := cellL (HPd.out.blk 0 rfl) x px (by rw [hxl]; omega)
            have hcs := cellL (HPd.out.blk 3 rfl) x px (by rw [hl]; omega)
            have hfs := frozC (HPd.out.blk 3 rfl) x.toNat
            clear hl hxl hx
            go_wp2
            refine still_tail 8 (by kernel_rfl) (by kernel_rfl) hwd ?_
            simp only [List.take_succ_cons, List.take_zero, List.drop_succ_cons, List.drop_zero]
            repeat still_step
            refine wpStill_nil ?_
            go_wp2
            have hxn : x.toNat = i := by have := HX.out; omega
            have HPn := Aside0.mk (HPd.out.setCell 3 rfl i (.int .u32 ((rd (addI [s0, s1, s2, s3, s4, s5, s6, s7] v.l i) i + rd v.l i) % 4294967296)))
            rw [show (u32s (addI [s0, s1, s2, s3, s4, s5, s6, s7] v.l i)).toArray.setIfInBounds i (.int .u32 ((rd (addI [s0, s1, s2, s3, s4, s5, s6, s7] v.l i) i + rd v.l i) % 4294967296)) = (u32s (addI [s0, s1, s2, s3, s4, s5, s6, s7] v.l (i + 1))).toArray from setL (k := .u32) _ _ _] at HPn
            rw [← HX.out, ← hxn] at HPn
            go_roundg (gk - 1)
            case measure => have := HK.out; omega
            case rel => exact ⟨i + 1, x + 1, by simp, ⟨by have := HX.out; omega⟩, ⟨by have := HK.out; omega⟩, ⟨by rw [hxn] at HPn ⊢; exact HPn.out⟩⟩
          · have d1 : decide (x < 8) = false := decide_eq_false (by omega)
            obtain rfl : i = 8 := by have := HK.out; omega
            clear c4 hx HX HK
            go_wp2_with (first | ((with_reducible refine gate_dst (N := 195) rfl ?_); refine ev_load rfl 49 (.tmp 2) rfl g_s rfl (HP.out.blk 3 rfl) Try.underlying49 rfl (by kernel_rfl) ?_) | ((with_reducible refine gate_store (t := 49) (p := 4) rfl ?_); refine ev_store rfl 49 (.tmp 4) (.tmp 195) rfl rfl _ rfl (cells := (u32s (addI [s0, s1, s2, s3, s4, s5, s6, s7] v.l 8)).toArray) rfl (HP.out.blk 2 rfl) (by rw [List.size_toArray, u32s_len, addI_len]; kernel_rfl) (by rw [List.size_toArray, List.size_toArray, u32s_len, u32s_len, addI_len]; rfl) (one_u32 _) ?_; intro wn21 hg hgr; have HPn := Aside0.mk (HP.out.setB 2 rfl hgr hg); clear HP; have HP := HPn; clear HPn; clear hg hgr))
            refine bodyPost_ret (results_cell_row rfl _ _ g_o 49 (u32s (addI [s0, s1, s2, s3, s4, s5, s6, s7] v.l 8)).toArray (0, 0) _ rfl (HP.out.blk 2 rfl) Try.underlying49 rfl (by kernel_rfl)) rfl ?_
            exact ⟨by rw [HV.out]; rfl, HP.out.below⟩
end Go.Proofs.Ytpnjbogpooejhaa.H
