import Derived.Test.YtncmbkjjoamfjaaO4p
import Derived.WalkMore
import Derived.Lib.Bytes
namespace Go.Proofs.Ytncmbkjjoamfjaa.H
open Go.RowKit Go.Proofs.Ytncmbkjjoamfjaa.XH Go.Proofs.YtncmbkjjoamfjaaW.PrintWords Go.Proofs.YtncmbkjjoamfjaaW.PrintLast Go.Proofs.YtncmbkjjoamfjaaW.PrintMore Go.Proofs.YtncmbkjjoamfjaaXe Go.Proofs.YtncmbkjjoamfjaaXs
set_option linter.unusedVariables false
set_option linter.unusedSimpArgs false
attribute [local go_sem ↓] Go.wp_at_zero Go.wp_at_succ
attribute [local go_sem] valUpon
attribute [local go_sem ↓ high] bn29
attribute [local go_sem high] BN29.z
theorem held_named {P : Program} {ops : Array Oper} {Q : Exit → Act → World → Prop} {S : World → Prop} {id : Nat} {a : Act} {w : World} (hm : P.follows .mixedOrders = true) (h : ∀ wd : World, w.drew = wd → S wd ∧ (S wd → wpAnyH P .any ops Q S ops.size (Array.replicate ops.size false) a wd)) : (Code.region id ops true).wp P Q a w :=
  wp_region_held_drew hm (h _ rfl).1 (h _ rfl).2
theorem results_three {P : Program} {fn : Func} {p p2 p3 : Tmp} (h : fn.results = #[.tmp p, .tmp p2, .tmp p3]) (tmps : Array Value) (w : World) {v v2 v3 : Value} (hp : tmps.getD p undef = v) (hp2 : tmps.getD p2 undef = v2) (hp3 : tmps.getD p3 undef = v3) : (results fn tmps).run P w = .ok (.tuple #[v, v2, v3]) w := by
  have hp' : tmps[p]?.getD undef = v := by simpa using hp
  have hp2' : tmps[p2]?.getD undef = v2 := by simpa using hp2
  have hp3' : tmps[p3]?.getD undef = v3 := by simpa using hp3
  simp [results, h, hp', hp2', hp3']
theorem alloc_size1 (w : World) (o : Obj) : (w.alloc o).heap.size = w.heap.size + 1 := by simp
theorem bysU_eq : ∀ (x y : List Int), Bytes x → Bytes y → ((x.map fun n => UInt8.ofNat n.toNat) = (y.map fun n => UInt8.ofNat n.toNat) ↔ x = y)
  | [], [], _, _ => by simp
  | a :: x, b :: y, ha, hb => by
    have ih := bysU_eq x y (fun z hz => ha z (by simp [hz])) (fun z hz => hb z (by simp [hz]))
    have h1 := ha a (by simp)
    have h2 := hb b (by simp)
    rw [List.map_cons, List.map_cons, List.cons.injEq, List.cons.injEq, ih, ← UInt8.toNat_inj]
    simp only [UInt8.toNat_ofNat']
    constructor
    · rintro ⟨h3, h4⟩; exact ⟨by omega, h4⟩
    · rintro ⟨h3, h4⟩; exact ⟨by omega, h4⟩
  | [], _ :: _, _, _ => by simp
  | _ :: _, [], _, _ => by simp
theorem eq_beq (x y : List Int) (hx : Bytes x) (hy : Bytes y) : ((strOfNums x).toList == (strOfNums y).toList) = decide (x = y) := by
  rw [Lib.strOfNums_toList, Lib.strOfNums_toList, Bool.eq_iff_iff, beq_iff_eq, decide_eq_true_eq]
  exact bysU_eq x y hx hy
theorem eq_fB (x y : List Int) (hx : Bytes x) (hy : Bytes y) : bytes_Equal.f x y = some (decide (x = y)) := by
  unfold bytes_Equal.f
  rw [eq_beq x y hx hy]
theorem sha_byteB (M : List Int) : Bytes (sha M) := by
  intro x hx
  unfold sha outI at hx
  rcases List.mem_append.1 hx with h | h
  · obtain ⟨j, _, rfl⟩ := List.mem_map.1 h
    exact ⟨Int.emod_nonneg _ (by decide), Int.emod_lt_of_pos _ (by decide)⟩
  · rw [List.mem_replicate] at h; omega
def unpPost (b : List Int) (w : World) (e : Ending) (w' : World) : Prop := ∃ v, e = .returned (.tuple #[.int .i64 (unpK b), v, .int .i64 (unpE b)]) ∧ Kd.R (Kd.int .u8) 5 w' w.heap.size (fun _ => True) v (unpB b) ∧ Below w.heap.size w w'
theorem unp_err {b : List Int} {x : Int} {w w' : World} (h : unpE b = x) (hx : x ≠ 0) (hb : Below w.heap.size w w') : unpPost b w (.returned (.tuple #[.int .i64 0, .slice none 0 0, .int .i64 x])) w' :=
  ⟨_, by rw [h, show unpK b = 0 from by unfold unpK; rw [if_neg (by rw [h]; exact hx)]], by rw [show unpB b = [] from by unfold unpB; rw [if_neg (by rw [h]; exact hx)]]; exact Kd.R_nil _ _ _ _ _, hb⟩
/-- the number that i bytes tell -/
def fO (b : List Int) : Nat → Int
  | 0 => 0
  | i + 1 => fO b i * 256 + rd b ((i + 1 : Nat) : Int)
theorem fO_range (b : List Int) (hB : Bytes b) : ∀ i, i ≤ 4 → 0 ≤ fO b i ∧ fO b i < 4294967296
  | 0, _ => by simp [fO]
  | 1, _ => by have := rdB hB 1; simp only [fO] at *; simp only [show (((0 + 1 : Nat) : Nat) : Int) = 1 from rfl]; omega
  | 2, _ => by
    have := rdB hB 1; have := rdB hB 2
    simp only [fO, show (((0 + 1 : Nat) : Nat) : Int) = 1 from rfl, show (((1 + 1 : Nat) : Nat) : Int) = 2 from rfl]; omega
  | 3, _ => by
    have := rdB hB 1; have := rdB hB 2; have := rdB hB 3
    simp only [fO, show (((0 + 1 : Nat) : Nat) : Int) = 1 from rfl, show (((1 + 1 : Nat) : Nat) : Int) = 2 from rfl, show (((2 + 1 : Nat) : Nat) : Int) = 3 from rfl]; omega
  | 4, _ => by
    have := rdB hB 1; have := rdB hB 2; have := rdB hB 3; have := rdB hB 4
    simp only [fO, show (((0 + 1 : Nat) : Nat) : Int) = 1 from rfl, show (((1 + 1 : Nat) : Nat) : Int) = 2 from rfl, show (((2 + 1 : Nat) : Nat) : Int) = 3 from rfl, show (((3 + 1 : Nat) : Nat) : Int) = 4 from rfl]; omega
  | i + 5, h => by omega
theorem fO_small (b : List Int) (hB : Bytes b) (i : Nat) (h : i < 4) : fO b i < 16777216 := by
  have h1 := (fO_range b hB (i + 1) (by omega)).2
  have h2 := rdB hB ((i + 1 : Nat) : Int)
  rw [fO] at h1
  omega
theorem fO_4 (b : List Int) : fO b 4 = numO b := by
  simp only [fO, numO, show (((0 + 1 : Nat) : Nat) : Int) = 1 from rfl, show (((1 + 1 : Nat) : Nat) : Int) = 2 from rfl, show (((2 + 1 : Nat) : Nat) : Int) = 3 from rfl, show (((3 + 1 : Nat) : Nat) : Int) = 4 from rfl]; omega
theorem rd_15 (b : List Int) (h : 5 ≤ b.length) (i : Nat) (hi : i < 4) : rd ((b.take 5).drop 1) (i : Int) = rd b ((i + 1 : Nat) : Int) := by
  rw [take5 b h]
  match i, hi with
  | 0, _ => rfl
  | 1, _ => rfl
  | 2, _ => rfl
  | 3, _ => rfl
set_option maxHeartbeats 8000000 in
set_option maxRecDepth 100000 in
theorem c_unpack (A : Option Addr) (c : Nat) (b : List Int) (w : World) (hr : Kd.C (Kd.int .u8) w A b.length b) (hc : b.length ≤ c) (hm : b.length ≤ 1000000) (hB : Bytes b) :
    Calls Try.prog 19 #[.slice A b.length c] w (unpPost b w) := by
  have HR := Aside0.mk hr
  have HC := Aside0.mk hc
  have HM := Aside0.mk hm
  have HBY := Aside0.mk hB
  have HP := Aside0.mk (Hp.start w)
  obtain ⟨r, hr0⟩ : ∃ z : Int, (b.length : Int) % 64 = z := ⟨_, rfl⟩
  have er : Int.tmod (b.length : Int) 64 = r := by rw [Int.tmod_eq_emod_of_nonneg (by omega)]; exact hr0
  clear hr
  by_cases a1 : b.length < 64
  · have d1 : decide ((b.length : Int) < 64) = true := decide_eq_true (by omega)
    have HE := Aside0.mk (show unpE b = 4 from by unfold unpE; rw [if_pos (.inl a1)])
    clear hc hm hB hr0 a1
    go_enter Try.func19, Try.ntmps19
    go_wp2
    go_step3
    go_wp2
    try rw [Exit.noGoto_ret]
    refine bodyPost_ret (results_three rfl _ _ rfl rfl rfl) rfl ?_
    exact unp_err (by exact HE.out) (by decide) HP.out.below
  have d1 : decide ((b.length : Int) < 64) = false := decide_eq_false (by omega)
  by_cases a2 : r = 0
  rotate_left
  · have d2 : (r != 0) = true := bne_iff_ne.2 a2
    have HE := Aside0.mk (show unpE b = 4 from by unfold unpE; rw [if_pos (.inr (by omega))])
    clear hc hm hB hr0 a1 a2
    go_enter Try.func19, Try.ntmps19
    go_wp2
    go_step3
    go_wp2
    try rw [Exit.noGoto_ret]
    refine bodyPost_ret (results_three rfl _ _ rfl rfl rfl) rfl ?_
    exact unp_err (by exact HE.out) (by decide) HP.out.below
  have d2 : (r != 0) = false := bne_eq_false_iff_eq.2 a2
  have HL := Aside0.mk (show 64 ≤ b.length ∧ b.length % 64 = 0 by omega)
  obtain ⟨ad, rfl, hc0⟩ := Kd.at_int HR.out 0 (by decide) (by omega)
  have hc0' : w.cell? ad = some (.int .u8 (rd b 0)) := by have h := hc0; rwa [show (0 : Int).toNat = 0 from rfl, show ad.add 0 = ad from by simp [Addr.add]] at h
  obtain ⟨k, hk⟩ : ∃ z, rd b 0 = z := ⟨_, rfl⟩
  rw [hk] at hc0 hc0'
  have hkb := rdB hB 0
  rw [hk] at hkb
  have ek := i64k (x := k) rfl (by omega)
  obtain ⟨A4, m4, hm4, hl4, hlc4, hrun4, hC4⟩ := mid8 (some ad) c b 1 5 (by decide) (by omega) hc 1 5 rfl rfl
  rw [show 5 - 1 = 4 from rfl] at hl4
  rw [hl4] at hrun4 hC4 hlc4
  have HC4 := Aside0.mk hC4
  have q00 : (0 : Int) < (b.length : Int) := by omega
  have q01 : 0 < b.length := by omega
  have q02 : b ≠ [] := by intro h; rw [h] at q01; simp at q01
  have HM4 := Aside0.mk (show ∀ i : Nat, i < 4 → rd m4 (i : Int) = rd b ((i + 1 : Nat) : Int) from fun i hi => by rw [← hm4]; exact rd_15 b (by omega) i hi)
  have HK := Aside0.mk hk
  have HKB := Aside0.mk hkb
  clear hc hm hB hr0 a1 a2 hl4 hlc4 hm4 hk hkb hC4
  go_enter Try.func19, Try.ntmps19
  go_wp2
  go_step3
  go_wp2
  clear hrun4 hc0 hc0' d1 d2 er q00 q01 q02
  go_loopg [6, 8, 29] 4 (fun kq v6 v8 v29 w' => ∃ (i : Nat) (x s : Int), v6 = .int .i64 s ∧ v29 = .int .i64 x ∧ Aside0 (x = (i : Int)) ∧ Aside0 (kq + i = 4) ∧ Aside0 (s = fO b i) ∧ Aside0 (Hp w w' []))
  case atStart => exact ⟨0, 0, 0, rfl, rfl, ⟨rfl⟩, ⟨rfl⟩, ⟨rfl⟩, HP⟩
  clear HP
  obtain ⟨i, x, s, rfl, rfl, HX, HK2, HS, HP⟩ := hrel
  have hx := HX.out
  by_cases c1 : i < 4
  · have d1 : decide (x < 4) = true := decide_eq_true (by omega)
    have p0 : 0 ≤ x := by omega
    have q0 : x < 4 := by omega
    have ex := i64k (x := x + 1) rfl (by omega)
    obtain ⟨ad4, e4, hcx⟩ := Kd.at_int (HC4.out wr (Kd.C_below HR.out HP.out.below)) x p0 (by omega)
    subst e4
    obtain ⟨d, hd⟩ : ∃ z, rd m4 x = z := ⟨_, rfl⟩
    rw [hd] at hcx
    have hdv : d = rd b ((i + 1 : Nat) : Int) := by rw [← hd, hx]; exact HM4.out i c1
    have hdb := rdB HBY.out ((i + 1 : Nat) : Int)
    rw [← hdv] at hdb
    have hsr := fO_range b HBY.out i (by omega)
    have hsm := fO_small b HBY.out i c1
    rw [← HS.out] at hsr hsm
    obtain ⟨s256, h256⟩ : ∃ z, s * 256 = z := ⟨_, rfl⟩
    obtain ⟨s2, h2⟩ : ∃ z, s256 + d = z := ⟨_, rfl⟩
    have g1 := i64k h256 (by omega)
    have g2 : shl .i64 s 8 = s256 := by unfold shl; exact g1
    have gw : wrap64 s256 = s256 := by unfold wrap64; omega
    have ed := i64k (x := d) rfl (by omega)
    have g4 : Go.bits .or .i64 s256 d = s2 := by
      rw [bits_join .i64 63 (by decide) (fun n a b => by rw [IntKind.wrap_i64]; omega) 8 s256 d (by omega) (by omega) (by omega) (by omega) (by omega) (by omega)]; exact h2
    have g5 : Go.bits .or .i64 (wrap64 s256) d = s2 := by rw [gw]; exact g4
    clear gw
    have HS2 := Aside0.mk (show s2 = fO b (i + 1) by rw [fO, ← HS.out, ← hdv]; omega)
    have HC1 := Aside0.mk c1
    clear hx hd hdv hdb hsr hsm h2 c1
    go_wp2
    go_roundg (gk - 1)
    case measure => have := HK2.out; have := HC1.out; omega
    case rel => exact ⟨i + 1, x + 1, s2, rfl, by simp, ⟨by have := HX.out; omega⟩, ⟨by have := HK2.out; have := HC1.out; omega⟩, HS2, HP⟩
  have d1 : decide (x < 4) = false := decide_eq_false (by omega)
  obtain rfl : i = 4 := by have := HK2.out; omega
  have hsr := fO_range b HBY.out 4 (Nat.le_refl _)
  rw [← HS.out] at hsr
  have HN := Aside0.mk (show numO b = s by rw [← fO_4]; exact HS.out.symm)
  have hkb := HKB.out
  have hl := HL.out
  have HE0 := Aside0.mk (show ¬ (b.length < 64 ∨ b.length % 64 ≠ 0) by omega)
  by_cases k1 : k < 1
  · have d2 : decide (k < 1) = true := decide_eq_true k1
    have HE := Aside0.mk (show unpE b = 2 from by unfold unpE; rw [if_neg HE0.out, if_pos (.inl (by rw [HK.out]; exact k1))])
    clear hx c1 hsr hkb hl k1
    go_wp2
    try rw [Exit.noGoto_ret]
    refine bodyPost_ret (results_three rfl _ _ rfl rfl rfl) rfl ?_
    exact unp_err (by exact HE.out) (by decide) HP.out.below
  have d2 : decide (k < 1) = false := decide_eq_false k1
  by_cases k9 : 9 < k
  · have d3 : decide (k > 9) = true := decide_eq_true k9
    have HE := Aside0.mk (show unpE b = 2 from by unfold unpE; rw [if_neg HE0.out, if_pos (.inr (by rw [HK.out]; exact k9))])
    clear hx c1 hsr hkb hl k1 k9
    go_wp2
    try rw [Exit.noGoto_ret]
    refine bodyPost_ret (results_three rfl _ _ rfl rfl rfl) rfl ?_
    exact unp_err (by exact HE.out) (by decide) HP.out.below
  have d3 : decide (k > 9) = false := decide_eq_false k9
  have HE1 := Aside0.mk (show ¬ (rd b 0 < 1 ∨ 9 < rd b 0) by rw [HK.out]; omega)
  by_cases n6 : 65536 < s
  · have d4 : decide (s > 65536) = true := decide_eq_true n6
    have HE := Aside0.mk (show unpE b = 3 from by unfold unpE; rw [if_neg HE0.out, if_neg HE1.out, if_pos (by rw [HN.out]; exact n6)])
    clear hx c1 hsr hkb hl k1 k9 n6
    go_wp2
    try rw [Exit.noGoto_ret]
    refine bodyPost_ret (results_three rfl _ _ rfl rfl rfl) rfl ?_
    exact unp_err (by exact HE.out) (by decide) HP.out.below
  have d4 : decide (s > 65536) = false := decide_eq_false n6
  obtain ⟨sc, hsc⟩ : ∃ z, secO s = z := ⟨_, rfl⟩
  have hscv : sc = (s + 100) / 64 := by rw [← hsc]; unfold secO; rw [if_neg (by omega)]
  have CSC := Aside0.mk (fun w => object_Sectors.calls 5 s sc w (by rw [sectors_f, hsc]))
  obtain ⟨m1, hm1⟩ : ∃ z, sc * 64 = z := ⟨_, rfl⟩
  have em1 := i64k hm1 (by omega)
  have HE2 := Aside0.mk (show ¬ 65536 < numO b by rw [HN.out]; exact n6)
  by_cases e64 : m1 = (b.length : Int)
  rotate_left
  · have d5 : (m1 != (b.length : Int)) = true := bne_iff_ne.2 e64
    have HE := Aside0.mk (show unpE b = 4 from by unfold unpE; rw [if_neg HE0.out, if_neg HE1.out, if_neg HE2.out, if_pos (by rw [HN.out, hsc, hm1]; exact e64)])
    clear hx c1 hsr hkb hl k1 k9 n6 hsc hscv hm1 e64
    go_wp2_with (go_at_call 15; refine (CSC.out _).mono ?_; rintro e w_ ⟨rfl, n_, rfl⟩; have HPn := Aside0.mk (HP.out.drewN n_); clear HP; have HP := HPn; clear HPn)
    try rw [Exit.noGoto_ret]
    refine bodyPost_ret (results_three rfl _ _ rfl rfl rfl) rfl ?_
    exact unp_err (by exact HE.out) (by decide) HP.out.below
  have d5 : (m1 != (b.length : Int)) = false := bne_eq_false_iff_eq.2 e64
  have HPC := Aside0.mk (pieces b HBY.out (by rw [HK.out]; omega) (by rw [HN.out]; omega) (by rw [HN.out, hsc, hm1]; exact e64))
  have HE3 := Aside0.mk (show ¬ secO (numO b) * 64 ≠ (b.length : Int) by rw [HN.out, hsc, hm1]; exact fun h => h e64)
  obtain ⟨n, hn⟩ : ∃ n : Nat, s = (n : Int) := ⟨s.toNat, by omega⟩
  have hN2 := HN.out
  obtain ⟨y, hy⟩ : ∃ z, 37 + s = z := ⟨_, rfl⟩
  have ey := i64k hy (by omega)
  obtain ⟨z1, hz1⟩ : ∃ z, (b.length : Int) - 37 = z := ⟨_, rfl⟩
  have ez1 := i64k hz1 (by have := HM.out; omega)
  obtain ⟨z2, hz2⟩ : ∃ z, z1 - s = z := ⟨_, rfl⟩
  have ez2 := i64k hz2 (by have := HM.out; omega)
  obtain ⟨nz, hnz⟩ : ∃ k, b.length - 37 - n = k := ⟨_, rfl⟩
  have hle : 37 + n ≤ b.length := by omega
  obtain ⟨A37, m37, hm37, hl37, hlc37, hrun37, hC37⟩ := mid8 (some ad) c b 37 (37 + n) (by omega) hle HC.out 37 y rfl (by omega)
  obtain ⟨A5, m5, hm5, hl5, hlc5, hrun5, hC5⟩ := mid8 (some ad) c b 5 37 (by decide) (by omega) HC.out 5 37 rfl rfl
  obtain ⟨AR, mR, hmR, hlR, hlcR, hrunR, hCR⟩ := from8 (some ad) c b (37 + n) hle HC.out y (by omega)
  have hmk : ∀ w : World, (Instr.makeSlice 22 (.int .i64 z2) (.int .i64 z2)).run Try.prog w = .ok (.slice (some ⟨w.heap.size, 0, none⟩) nz nz) (w.alloc (.cells (u8s (List.replicate nz 0)).toArray 5)) := fun w => by
    have e : z2 = ((nz : Nat) : Int) := by omega
    rw [e]
    exact run_make8 nz (by have := HM.out; omega) w
  have hbo : bodyO b = m37 := by unfold bodyO; rw [hN2, hn, Int.toNat_natCast]; exact hm37
  have hE11 : ¬ (m5 = sha m37 ∧ mR = List.replicate nz 0) → unpE b = 11 := fun h => by
    unfold unpE
    rw [if_neg HE0.out, if_neg HE1.out, if_neg HE2.out, if_neg HE3.out, if_neg]
    intro h2
    have h3 := HPC.out.1 h2
    rw [hbo, hN2, hn, Int.toNat_natCast, hm5, hmR, hnz] at h3
    exact h h3
  have hE00 : (m5 = sha m37 ∧ mR = List.replicate nz 0) → unpE b = 0 := fun h => by
    unfold unpE
    rw [if_neg HE0.out, if_neg HE1.out, if_neg HE2.out, if_neg HE3.out, if_pos]
    refine HPC.out.2 ?_
    rw [hbo, hN2, hn, Int.toNat_natCast, hm5, hmR, hnz]
    exact h
  have hB5 : Bytes m5 := fun x hx => HBY.out x (by rw [← hm5] at hx; exact List.mem_of_mem_take (List.mem_of_mem_drop hx))
  have hBR : Bytes mR := fun x hx => HBY.out x (by rw [← hmR] at hx; exact List.mem_of_mem_drop hx)
  have HB5 := Aside0.mk hB5
  have HBR := Aside0.mk hBR
  have HE11 := Aside0.mk hE11
  have HE00 := Aside0.mk hE00
  have HBO := Aside0.mk hbo
  have H37 := Aside0.mk (And.intro hC37 (And.intro hlc37 (show m37.length ≤ 1000000 by have := HM.out; omega)))
  have H5 := Aside0.mk (And.intro hC5 (And.intro hlc5 hl5))
  have HRR := Aside0.mk (And.intro hCR (And.intro hlcR (show mR.length ≤ 1000000 ∧ nz ≤ 1000000 by have := HM.out; omega)))
  have hcut2 : ∀ (g : Nat) (w : World), (Instr.sliceAt 29 (.pointer (some ⟨g, 0, none⟩)) none none none).run Try.prog w = .ok (.slice (some ⟨g, 0, none⟩) 32 32) w := fun g w => run_cut_all (P := Try.prog) Try.underlying29 (by kernel_rfl) (by decide) g 0 w
  clear hx c1 hsr hkb hl k1 k9 n6 hsc hscv hm1 e64 hn hN2 hy hz1 hz2 hnz hle hm37 hl37 hlc37 hC37 hm5 hl5 hlc5 hC5 hmR hlR hlcR hCR hbo hE11 hE00 hB5 hBR
  go_wp2_with (go_at_call 15; refine (CSC.out _).mono ?_; rintro e w_ ⟨rfl, n_, rfl⟩; have HPn := Aside0.mk (HP.out.drewN n_); clear HP; have HP := HPn; clear HPn)
  obtain ⟨wn1, hwn1⟩ : ∃ z, wr.drewN n_ = z := ⟨_, rfl⟩
  rw [hwn1] at HP
  rw [hwn1]
  clear hwn1
  refine (c_hsum A37 (c - 37) m37 _ (H37.out.1 _ (Kd.C_below HR.out HP.out.below)) H37.out.2.1 (by have := H37.out.2.2; omega)).mono ?_; rintro e wn2 ⟨rfl, hb⟩; have HPn := Aside0.mk (HP.out.call hb); clear HP; have HP := HPn; clear HPn; clear hb
  go_wp2_with (first | ((with_reducible refine gate_dst (N := 10) rfl ?_); refine ev_alloc rfl 29 rfl (.agg (u8s z32).toArray) (by kernel_rfl) ?_; intro g_t wn3 hge hg hb; have HPn := Aside0.mk (HP.out.newB hb hg hge); clear HP; have HP := HPn; clear HPn; clear hge hg hb) | ((with_reducible refine gate_store (t := 29) (p := 10) rfl ?_); refine ev_store rfl 29 (.tmp 10) (.tmp 61) rfl rfl _ rfl (cells := (u8s (sha m37)).toArray) rfl (HP.out.blk 0 rfl) (by rw [List.size_toArray, u8s_len, sha_len']; kernel_rfl) (show (u8s z32).toArray.size = (u8s (sha m37)).toArray.size from by rw [List.size_toArray, List.size_toArray, u8s_len, u8s_len, z32_len, sha_len']) (one_u8 _) ?_; intro wn4 hg hgr; have HPn := Aside0.mk (HP.out.setB 0 rfl hgr hg); clear HP; have HP := HPn; clear HPn; clear hg hgr))
  go_step3
  go_wp2
  refine held_named (S := (fun _ => True)) (by kernel_rfl) (fun wd17 hwd17 => ?_)
  have HPn := Aside0.mk (HP.out.drewN 1)
  rw [← World.drew_is_drewN, hwd17] at HPn
  clear HP hwd17
  have HP := HPn
  clear HPn
  refine ⟨by (try dsimp only); first | done | trivial, fun hHeld => ?_⟩
  refine wpAnyH_take (i := 0) (oi := ({ dst := (some 62), op := (Op.move (Operand.tmp 0)), type := 22, pos := "object.go:78", after := #[], guard := none } : Oper)) (v := ?_) rfl (by kernel_rfl) (by kernel_rfl) (by kernel_rfl) (fun _ _ _ h => h) (Or.inl ⟨by rfl, ?_⟩) hHeld ?_
  rotate_left
  · intro w_ hSw; (try dsimp only at hSw); go_simp; try (with_reducible rfl)
  try simp only [Act.put, List.setIfInBounds_toArray, List.set_cons_zero, List.set_cons_succ]
  refine wpAnyH_take (i := 1) (oi := ({ dst := (some 63), op := (Op.slice 22 (Operand.tmp 62) (some (Operand.const (Value.int IntKind.i64 5))) (some (Operand.const (Value.int IntKind.i64 37))) none), type := 22, pos := "object.go:78", after := #[{ on := 0, ground := Ground.data }], guard := none } : Oper)) (v := ?_) rfl (by kernel_rfl) (by kernel_rfl) (by kernel_rfl) (fun _ _ _ h => h) (Or.inl ⟨by rfl, ?_⟩) hHeld ?_
  rotate_left
  · intro w_ hSw; (try dsimp only at hSw); go_simp; try (with_reducible rfl)
  try simp only [Act.put, List.setIfInBounds_toArray, List.set_cons_zero, List.set_cons_succ]
  refine wpAnyH_take (i := 2) (oi := ({ dst := (some 64), op := (Op.slice 29 (Operand.tmp 10) none none none), type := 22, pos := "object.go:78", after := #[], guard := none } : Oper)) (v := ?_) rfl (by kernel_rfl) (by kernel_rfl) (by kernel_rfl) (fun _ _ _ h => h) (Or.inl ⟨by rfl, ?_⟩) hHeld ?_
  rotate_left
  · intro w_ hSw; (try dsimp only at hSw); go_simp; try (with_reducible rfl)
  try simp only [Act.put, List.setIfInBounds_toArray, List.set_cons_zero, List.set_cons_succ]
  refine wpAnyH_take (i := 3) (oi := ({ dst := (some 65), op := (Op.build 49 #[(0, (Operand.tmp 63)), (1, (Operand.tmp 64))]), type := 49, pos := "object.go:78", after := #[{ on := 1, ground := Ground.data }, { on := 2, ground := Ground.data }], guard := none } : Oper)) (v := ?_) rfl (by kernel_rfl) (by kernel_rfl) (by kernel_rfl) (fun _ _ _ h => h) (Or.inl ⟨by rfl, ?_⟩) hHeld ?_
  rotate_left
  · intro w_ hSw; (try dsimp only at hSw); go_simp; try (with_reducible rfl)
  try simp only [Act.put, List.setIfInBounds_toArray, List.set_cons_zero, List.set_cons_succ]
  refine wpAnyH_take (i := 4) (oi := ({ dst := (some 66), op := (Op.move (Operand.tmp 0)), type := 22, pos := "object.go:78", after := #[], guard := none } : Oper)) (v := ?_) rfl (by kernel_rfl) (by kernel_rfl) (by kernel_rfl) (fun _ _ _ h => h) (Or.inl ⟨by rfl, ?_⟩) hHeld ?_
  rotate_left
  · intro w_ hSw; (try dsimp only at hSw); go_simp; try (with_reducible rfl)
  try simp only [Act.put, List.setIfInBounds_toArray, List.set_cons_zero, List.set_cons_succ]
  refine wpAnyH_take (i := 5) (oi := ({ dst := (some 67), op := (Op.move (Operand.tmp 6)), type := 3, pos := "object.go:78", after := #[], guard := none } : Oper)) (v := ?_) rfl (by kernel_rfl) (by kernel_rfl) (by kernel_rfl) (fun _ _ _ h => h) (Or.inl ⟨by rfl, ?_⟩) hHeld ?_
  rotate_left
  · intro w_ hSw; (try dsimp only at hSw); go_simp; try (with_reducible rfl)
  try simp only [Act.put, List.setIfInBounds_toArray, List.set_cons_zero, List.set_cons_succ]
  refine wpAnyH_take (i := 6) (oi := ({ dst := (some 68), op := (Op.binOp BinOp.add 3 (Operand.const (Value.int IntKind.i64 37)) (Operand.tmp 67) 3), type := 3, pos := "object.go:78", after := #[{ on := 5, ground := Ground.data }], guard := none } : Oper)) (v := ?_) rfl (by kernel_rfl) (by kernel_rfl) (by kernel_rfl) (fun _ _ _ h => h) (Or.inl ⟨by rfl, ?_⟩) hHeld ?_
  rotate_left
  · intro w_ hSw; (try dsimp only at hSw); go_simp; try (with_reducible rfl)
  try simp only [Act.put, List.setIfInBounds_toArray, List.set_cons_zero, List.set_cons_succ]
  refine wpAnyH_take (i := 7) (oi := ({ dst := (some 69), op := (Op.slice 22 (Operand.tmp 66) (some (Operand.tmp 68)) none none), type := 22, pos := "object.go:78", after := #[{ on := 4, ground := Ground.data }, { on := 6, ground := Ground.data }], guard := none } : Oper)) (v := ?_) rfl (by kernel_rfl) (by kernel_rfl) (by kernel_rfl) (fun _ _ _ h => h) (Or.inl ⟨by rfl, ?_⟩) hHeld ?_
  rotate_left
  · intro w_ hSw; (try dsimp only at hSw); go_simp; try (with_reducible rfl)
  try simp only [Act.put, List.setIfInBounds_toArray, List.set_cons_zero, List.set_cons_succ]
  refine wpAnyH_take (i := 8) (oi := ({ dst := (some 70), op := (Op.move (Operand.tmp 0)), type := 22, pos := "object.go:78", after := #[], guard := none } : Oper)) (v := ?_) rfl (by kernel_rfl) (by kernel_rfl) (by kernel_rfl) (fun _ _ _ h => h) (Or.inl ⟨by rfl, ?_⟩) hHeld ?_
  rotate_left
  · intro w_ hSw; (try dsimp only at hSw); go_simp; try (with_reducible rfl)
  try simp only [Act.put, List.setIfInBounds_toArray, List.set_cons_zero, List.set_cons_succ]
  refine wpAnyH_take (i := 9) (oi := ({ dst := (some 71), op := (Op.call { callee := (Callee.builtin Builtin.len), args := #[(Operand.tmp 70)], argTypes := #[22] }), type := 3, pos := "object.go:78", after := #[{ on := 8, ground := Ground.data }], guard := none } : Oper)) (v := ?_) rfl (by kernel_rfl) (by kernel_rfl) (by kernel_rfl) (fun _ _ _ h => h) (Or.inl ⟨by rfl, ?_⟩) hHeld ?_
  rotate_left
  · intro w_ hSw; (try dsimp only at hSw); go_simp; try (with_reducible rfl)
  try simp only [Act.put, List.setIfInBounds_toArray, List.set_cons_zero, List.set_cons_succ]
  refine wpAnyH_take (i := 10) (oi := ({ dst := (some 72), op := (Op.binOp BinOp.sub 3 (Operand.tmp 71) (Operand.const (Value.int IntKind.i64 37)) 3), type := 3, pos := "object.go:78", after := #[{ on := 9, ground := Ground.data }], guard := none } : Oper)) (v := ?_) rfl (by kernel_rfl) (by kernel_rfl) (by kernel_rfl) (fun _ _ _ h => h) (Or.inl ⟨by rfl, ?_⟩) hHeld ?_
  rotate_left
  · intro w_ hSw; (try dsimp only at hSw); go_simp; try (with_reducible rfl)
  try simp only [Act.put, List.setIfInBounds_toArray, List.set_cons_zero, List.set_cons_succ]
  refine wpAnyH_take (i := 11) (oi := ({ dst := (some 73), op := (Op.move (Operand.tmp 6)), type := 3, pos := "object.go:78", after := #[], guard := none } : Oper)) (v := ?_) rfl (by kernel_rfl) (by kernel_rfl) (by kernel_rfl) (fun _ _ _ h => h) (Or.inl ⟨by rfl, ?_⟩) hHeld ?_
  rotate_left
  · intro w_ hSw; (try dsimp only at hSw); go_simp; try (with_reducible rfl)
  try simp only [Act.put, List.setIfInBounds_toArray, List.set_cons_zero, List.set_cons_succ]
  refine wpAnyH_take (i := 12) (oi := ({ dst := (some 74), op := (Op.binOp BinOp.sub 3 (Operand.tmp 72) (Operand.tmp 73) 3), type := 3, pos := "object.go:78", after := #[{ on := 10, ground := Ground.data }, { on := 11, ground := Ground.data }], guard := none } : Oper)) (v := ?_) rfl (by kernel_rfl) (by kernel_rfl) (by kernel_rfl) (fun _ _ _ h => h) (Or.inl ⟨by rfl, ?_⟩) hHeld ?_
  rotate_left
  · intro w_ hSw; (try dsimp only at hSw); go_simp; try (with_reducible rfl)
  try simp only [Act.put, List.setIfInBounds_toArray, List.set_cons_zero, List.set_cons_succ]
  refine wpAnyH_take (i := 17) (oi := ({ dst := (some 79), op := (Op.move (Operand.const (Value.int IntKind.i64 0))), type := 3, pos := "object.go:78", after := #[], guard := none } : Oper)) (v := ?_) rfl (by kernel_rfl) (by kernel_rfl) (by kernel_rfl) (fun _ _ _ h => h) (Or.inl ⟨by rfl, ?_⟩) hHeld ?_
  rotate_left
  · intro w_ hSw; (try dsimp only at hSw); go_simp; try (with_reducible rfl)
  try simp only [Act.put, List.setIfInBounds_toArray, List.set_cons_zero, List.set_cons_succ]
  refine wpAnyH_ready (rs := [13]) (by kernel_rfl) (by simp) ?_
  refine AllReadyH.cons (o := ({ dst := (some 75), op := (Op.makeSlice 22 (Operand.tmp 74) (Operand.tmp 74)), type := 22, pos := "object.go:78", after := #[{ on := 12, ground := Ground.data }, { on := 12, ground := Ground.data }], guard := none } : Oper)) rfl (fun K hK => ?_) AllReadyH.nil
  go_simp; have HPn := Aside0.mk (HP.out.alloc (.cells (u8s (List.replicate nz 0)).toArray 5 (0, 0))); clear HP; have HP := HPn; clear HPn
  clear hHeld
  refine hK.out _ _ ?_ (fun hHeld => ?_)
  · (try dsimp only); first | done | trivial
  clear hK K
  try simp only [Act.put, List.setIfInBounds_toArray, List.set_cons_zero, List.set_cons_succ]
  refine wpAnyH_take (i := 14) (oi := ({ dst := (some 76), op := (Op.build 49 #[(0, (Operand.tmp 69)), (1, (Operand.tmp 75))]), type := 49, pos := "object.go:78", after := #[{ on := 7, ground := Ground.data }, { on := 13, ground := Ground.data }], guard := none } : Oper)) (v := ?_) rfl (by kernel_rfl) (by kernel_rfl) (by kernel_rfl) (fun _ _ _ h => h) (Or.inl ⟨by rfl, ?_⟩) hHeld ?_
  rotate_left
  · intro w_ hSw; (try dsimp only at hSw); go_simp; try (with_reducible rfl)
  try simp only [Act.put, List.setIfInBounds_toArray, List.set_cons_zero, List.set_cons_succ]
  refine wpAnyH_ready (rs := [15]) (by kernel_rfl) (by simp) ?_
  refine AllReadyH.cons (o := ({ dst := (some 77), op := (Op.buildSlice 50 2 #[(0, (Operand.tmp 65)), (1, (Operand.tmp 76))]), type := 50, pos := "object.go:78", after := #[{ on := 3, ground := Ground.data }, { on := 14, ground := Ground.data }], guard := none } : Oper)) rfl (fun K hK => ?_) AllReadyH.nil
  go_simp; have HPn := Aside0.mk (HP.out.alloc (.cells #[.slice A5 m5.length (c - 5), .slice (some ⟨g_t, 0, none⟩) 32 32, .slice AR mR.length (c - (37 + n)), .slice (some ⟨wd17.heap.size, 0, none⟩) nz nz] 49 (0, 0))); clear HP; have HP := HPn; clear HPn
  clear hHeld
  refine hK.out _ _ ?_ (fun hHeld => ?_)
  · (try dsimp only); first | done | trivial
  clear hK K
  try simp only [Act.put, List.setIfInBounds_toArray, List.set_cons_zero, List.set_cons_succ]
  refine wpAnyH_take (i := 16) (oi := ({ dst := (some 78), op := (Op.call { callee := (Callee.builtin Builtin.len), args := #[(Operand.tmp 77)], argTypes := #[50] }), type := 3, pos := "object.go:78", after := #[{ on := 15, ground := Ground.data }], guard := none } : Oper)) (v := ?_) rfl (by kernel_rfl) (by kernel_rfl) (by kernel_rfl) (fun _ _ _ h => h) (Or.inl ⟨by rfl, ?_⟩) hHeld ?_
  rotate_left
  · intro w_ hSw; (try dsimp only at hSw); go_simp; try (with_reducible rfl)
  try simp only [Act.put, List.setIfInBounds_toArray, List.set_cons_zero, List.set_cons_succ]
  refine wpAnyH_done (by kernel_rfl) ?_ _
  go_wp2
  have HPn := Aside0.mk (show Hp w _ [.blk (wd17.heap.size + 1) (.cells #[.slice A5 m5.length (c - 5), .slice (some ⟨g_t, 0, none⟩) 32 32, .slice AR mR.length (c - (37 + n)), .slice (some ⟨wd17.heap.size, 0, none⟩) nz nz] 49 (0, 0)), .blk wd17.heap.size (.cells (u8s (List.replicate nz 0)).toArray 5 (0, 0)), .blk g_t (.cells (u8s (sha m37)).toArray 29 (0, 0))] from by have h := HP.out; rw [alloc_size1] at h; exact h)
  obtain ⟨gz, hgz⟩ : ∃ g, wd17.heap.size = g := ⟨_, rfl⟩
  obtain ⟨gp, hgp⟩ : ∃ g, wd17.heap.size + 1 = g := ⟨_, rfl⟩
  rw [hgz] at HPn hgp
  rw [hgp] at HPn
  rw [hgz, hgp]
  obtain ⟨wz, hwz⟩ : ∃ z, (wd17.alloc (.cells (u8s (List.replicate nz 0)).toArray 5)).alloc (.cells #[.slice A5 m5.length (c - 5), .slice (some ⟨g_t, 0, none⟩) 32 32, .slice AR mR.length (c - (37 + n)), .slice (some ⟨gz, 0, none⟩) nz nz] 49) = z := ⟨_, rfl⟩
  rw [hwz] at HPn
  rw [hwz]
  clear HP hwz hgz hgp hmk hcut2 hrun37 hrun5 hrunR ey ez1 ez2 em1 CSC d1 d2 d3 d4 d5
  have HP1 := HPn
  clear HPn
  go_loopg [12, 79, 83] 2 (fun kq v12 v79 v83 w' => ∃ (i : Nat), v79 = .int .i64 (i : Int) ∧ Aside0 (kq + i = 2) ∧ Aside0 (1 ≤ i → m5 = sha m37) ∧ Aside0 (2 ≤ i → mR = List.replicate nz 0) ∧ Aside0 (Hp w w' [.blk gp (.cells #[.slice A5 m5.length (c - 5), .slice (some ⟨g_t, 0, none⟩) 32 32, .slice AR mR.length (c - (37 + n)), .slice (some ⟨gz, 0, none⟩) nz nz] 49 (0, 0)), .blk gz (.cells (u8s (List.replicate nz 0)).toArray 5 (0, 0)), .blk g_t (.cells (u8s (sha m37)).toArray 29 (0, 0))]))
  case atStart => exact ⟨0, rfl, ⟨rfl⟩, ⟨fun h => by omega⟩, ⟨fun h => by omega⟩, HP1⟩
  clear HP1
  obtain ⟨i, rfl, HK3, HI1, HI2, HP⟩ := hrel
  have hk3 := HK3.out
  have hq0 := blk_cell (HP.out.blk 0 rfl) 0
  have hq1 := blk_cell (HP.out.blk 0 rfl) 1
  have hq2 := blk_cell (HP.out.blk 0 rfl) 2
  have hq3 := blk_cell (HP.out.blk 0 rfl) 3
  match i, hk3 with
  | 0, hk3 =>
    have CB := Aside0.mk (fun (w : World) h1 h2 => bytes_Equal.calls A5 (c - 5) m5 (some ⟨g_t, 0, none⟩) 32 (sha m37) _ w h1 H5.out.2.1 h2 (by rw [sha_len']; exact Nat.le_refl _) (eq_fB m5 (sha m37) HB5.out (sha_byteB m37)))
    rw [sha_len'] at CB
    obtain ⟨eb, heb⟩ : ∃ z, decide (m5 = sha m37) = z := ⟨_, rfl⟩
    rw [heb] at CB
    have HEB := Aside0.mk heb
    clear hk3 heb
    go_wp2_with (first | ((with_reducible refine gate_dst (N := 12) rfl ?_); refine ev_alloc rfl 49 rfl (.agg #[.slice none 0 0, .slice none 0 0]) (by kernel_rfl) ?_; intro g_p wp1 hge hg hb; have HPn := Aside0.mk (HP.out.newB hb hg hge); clear HP; have HP := HPn; clear HPn; clear hge hg hb) | ((with_reducible refine gate_store (t := 49) (p := 12) rfl ?_); refine ev_store rfl 49 (.tmp 12) (.tmp 82) rfl rfl _ rfl (cells := #[.slice A5 m5.length (c - 5), .slice (some ⟨g_t, 0, none⟩) 32 32]) rfl (HP.out.blk 0 rfl) (by kernel_rfl) (by rfl) (by simp [Value.oneCell']) ?_; intro wp2 hg hgr; have HPn := Aside0.mk (HP.out.setB 0 rfl hgr hg); clear HP; have HP := HPn; clear HPn; clear hg hgr; have hf0 := blk_cell (HP.out.blk 0 rfl) 0; have hf1 := blk_cell (HP.out.blk 0 rfl) 1))
    clear hq0 hq1 hq2 hq3 hf0 hf1
    refine (CB.out _ (H5.out.1 _ (Kd.C_below HR.out HP.out.below)) (show Kd.C (Kd.int .u8) _ (some ⟨g_t, 0, none⟩) 32 (sha m37) from by have h := C_blkW (k := .u8) (HP.out.blk 3 rfl) (by rw [sha_len']; decide); rwa [sha_len'] at h)).mono ?_; rintro e w_ ⟨rfl, n5, rfl⟩; have HPn := Aside0.mk (HP.out.drewN n5); clear HP; have HP := HPn; clear HPn
    cases eb with
    | true =>
      go_wp2_with fail
      have HPd := Aside0.mk (Hp.drop1 HP.out)
      go_roundg 1
      case measure => have := HK3.out; omega
      case rel => exact ⟨1, by first | rfl | simp, ⟨rfl⟩, ⟨fun _ => of_decide_eq_true HEB.out⟩, ⟨fun h => by omega⟩, HPd⟩
    | false =>
      have HE := Aside0.mk (HE11.out (fun h => of_decide_eq_false HEB.out h.1))
      go_wp2_with fail
      try rw [Exit.noGoto_ret]
      refine bodyPost_ret (results_three rfl _ _ rfl rfl rfl) rfl ?_
      exact unp_err (by exact HE.out) (by decide) HP.out.below
  | 1, hk3 =>
    have CB := Aside0.mk (fun (w : World) h1 h2 => bytes_Equal.calls AR (c - (37 + n)) mR (some ⟨gz, 0, none⟩) nz (List.replicate nz 0) _ w h1 HRR.out.2.1 h2 (by rw [List.length_replicate]; exact Nat.le_refl _) (eq_fB mR (List.replicate nz 0) HBR.out (fun x hx => by rw [List.mem_replicate] at hx; omega)))
    rw [List.length_replicate] at CB
    obtain ⟨eb, heb⟩ : ∃ z, decide (mR = List.replicate nz 0) = z := ⟨_, rfl⟩
    rw [heb] at CB
    have HEB := Aside0.mk heb
    clear hk3 heb
    go_wp2_with (first | ((with_reducible refine gate_dst (N := 12) rfl ?_); refine ev_alloc rfl 49 rfl (.agg #[.slice none 0 0, .slice none 0 0]) (by kernel_rfl) ?_; intro g_p wp1 hge hg hb; have HPn := Aside0.mk (HP.out.newB hb hg hge); clear HP; have HP := HPn; clear HPn; clear hge hg hb) | ((with_reducible refine gate_store (t := 49) (p := 12) rfl ?_); refine ev_store rfl 49 (.tmp 12) (.tmp 82) rfl rfl _ rfl (cells := #[.slice AR mR.length (c - (37 + n)), .slice (some ⟨gz, 0, none⟩) nz nz]) rfl (HP.out.blk 0 rfl) (by kernel_rfl) (by rfl) (by simp [Value.oneCell']) ?_; intro wp2 hg hgr; have HPn := Aside0.mk (HP.out.setB 0 rfl hgr hg); clear HP; have HP := HPn; clear HPn; clear hg hgr; have hf0 := blk_cell (HP.out.blk 0 rfl) 0; have hf1 := blk_cell (HP.out.blk 0 rfl) 1))
    clear hq0 hq1 hq2 hq3 hf0 hf1
    refine (CB.out _ (HRR.out.1 _ (Kd.C_below HR.out HP.out.below)) (show Kd.C (Kd.int .u8) _ (some ⟨gz, 0, none⟩) nz (List.replicate nz 0) from by have h := C_blkW (k := .u8) (HP.out.blk 2 rfl) (by rw [List.length_replicate]; have := HRR.out.2.2; omega); rwa [List.length_replicate] at h)).mono ?_; rintro e w_ ⟨rfl, n5, rfl⟩; have HPn := Aside0.mk (HP.out.drewN n5); clear HP; have HP := HPn; clear HPn
    cases eb with
    | true =>
      go_wp2_with fail
      have HPd := Aside0.mk (Hp.drop1 HP.out)
      go_roundg 0
      case measure => have := HK3.out; omega
      case rel => exact ⟨2, by first | rfl | simp, ⟨rfl⟩, ⟨fun _ => HI1.out (Nat.le_refl _)⟩, ⟨fun _ => of_decide_eq_true HEB.out⟩, HPd⟩
    | false =>
      have HE := Aside0.mk (HE11.out (fun h => of_decide_eq_false HEB.out h.2))
      go_wp2_with fail
      try rw [Exit.noGoto_ret]
      refine bodyPost_ret (results_three rfl _ _ rfl rfl rfl) rfl ?_
      exact unp_err (by exact HE.out) (by decide) HP.out.below
  | 2, hk3 =>
    have HE := Aside0.mk (HE00.out ⟨HI1.out (by decide), HI2.out (by decide)⟩)
    clear hk3 hq0 hq1 hq2 hq3
    go_wp2_with fail
    refine (slices_Clone.calls A37 (c - 37) m37 m37 _ (H37.out.1 _ (Kd.C_below HR.out HP.out.below)) H37.out.2.1 (by unfold slices_Clone.f; rw [if_pos (by have := H37.out.2.2; omega)])).mono ?_; rintro e w9 ⟨v9, rfl, ho, hb⟩
    have HPn := Aside0.mk (HP.out.newR hb ho)
    clear HP ho hb
    go_wp2_with fail
    try rw [Exit.noGoto_ret]
    refine bodyPost_ret (results_three rfl _ _ rfl rfl rfl) rfl ?_
    exact ⟨v9, by rw [HE.out, show unpK b = k from by unfold unpK; rw [if_pos HE.out]; exact HK.out]; rfl, by rw [show unpB b = m37 from by unfold unpB; rw [if_pos HE.out]; exact HBO.out]; exact HPn.out.row 0 rfl, HPn.out.below⟩
  | i + 3, hk3 => omega
end Go.Proofs.Ytncmbkjjoamfjaa.H
