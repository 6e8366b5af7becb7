import Derived.Test.YtpnjbogpooejhaaH6
import Derived.KernelRfl
namespace Go.Proofs.Ytpnjbogpooejhaa.H
open Go.RowKit Go.Proofs.Ytpnjbogpooejhaa.XH Go.Proofs.YtpnjbogpooejhaaW.PrintWords Go.Proofs.YtpnjbogpooejhaaW.PrintLast Go.Proofs.YtpnjbogpooejhaaW.PrintMore Go.Proofs.YtpnjbogpooejhaaXe Go.Proofs.YtpnjbogpooejhaaXs
set_option linter.unusedVariables false
set_option linter.unusedSimpArgs false
attribute [local go_sem ↓] Go.wp_at_zero Go.wp_at_succ
attribute [local go_sem] valUpon
set_option maxRecDepth 100000
/-! The digest of many blocks, by a strict evaluation over whole numbers without a sign. -/
theorem bits_xor_nat (a b : Nat) (ha : a < 2 ^ 32) (hb : b < 2 ^ 32) : Go.bits .xor .u32 (a : Int) (b : Int) = ((a ^^^ b : Nat) : Int) := by
  have ha' : a % 2 ^ 32 = a := Nat.mod_eq_of_lt ha
  have hb' : b % 2 ^ 32 = b := Nat.mod_eq_of_lt hb
  simp only [Go.bits, BitVec.ofInt_natCast, BitVec.toNat_xor, BitVec.toNat_ofNat, show IntKind.u32.bits = 32 from rfl, ha', hb']
  rw [IntKind.wrap_u32]
  have := Nat.xor_lt_two_pow ha hb
  omega
theorem wraps_u32 (n : Int) (h₀ : 0 ≤ n) (h₁ : n < 2 ^ 32) : IntKind.u32.wrap n = n := by rw [IntKind.wrap_u32]; omega
theorem bits_and_nat (a b : Nat) (ha : a < 2 ^ 32) (hb : b < 2 ^ 32) : Go.bits .and .u32 (a : Int) (b : Int) = ((a &&& b : Nat) : Int) := (bits_nat .u32 32 (by decide) wraps_u32 a b ha hb).1
theorem bits_or_nat (a b : Nat) (ha : a < 2 ^ 32) (hb : b < 2 ^ 32) : Go.bits .or .u32 (a : Int) (b : Int) = ((a ||| b : Nat) : Int) := (bits_nat .u32 32 (by decide) wraps_u32 a b ha hb).2
theorem low32 (x : Nat) : Nat.land x 4294967295 = x % 4294967296 := Nat.and_two_pow_sub_one_eq_mod x 32
def rotN (x k n : Nat) : Nat := Nat.lor (Nat.land (Nat.shiftLeft x k) 4294967295) (Nat.shiftRight x n)
theorem rotN_lt (x k n : Nat) (hx : x < 2 ^ 32) : rotN x k n < 2 ^ 32 := by
  refine Nat.or_lt_two_pow ?_ ?_
  · rw [low32]; omega
  · show x >>> n < _
    rw [Nat.shiftRight_eq_div_pow]
    exact Nat.lt_of_le_of_lt (Nat.div_le_self _ _) hx
theorem rot_nat (x k n : Nat) (hx : x < 2 ^ 32) (hn : k + n = 32) (h1 : 1 ≤ n) (h2 : n ≤ 31) : rot (x : Int) (n : Int) = ((rotN x k n : Nat) : Int) := by
  have e1 : shl .u32 (x : Int) (32 - (n : Int)) = ((Nat.land (Nat.shiftLeft x k) 4294967295 : Nat) : Int) := by
    unfold shl
    rw [show min (32 - (n : Int)).toNat IntKind.u32.bits = k by rw [show IntKind.u32.bits = 32 from rfl]; omega, IntKind.wrap_u32, low32]
    show _ = (((x <<< k) % 4294967296 : Nat) : Int)
    rw [Nat.shiftLeft_eq, Int.natCast_emod, Int.natCast_mul, Int.natCast_pow]
    rfl
  have e2 : shr .u32 (x : Int) (n : Int) = ((Nat.shiftRight x n : Nat) : Int) := by
    unfold shr
    rw [show min (n : Int).toNat IntKind.u32.bits = n by rw [show IntKind.u32.bits = 32 from rfl]; omega]
    show _ = ((x >>> n : Nat) : Int)
    rw [Nat.shiftRight_eq_div_pow, Int.natCast_ediv, Int.natCast_pow]
    rfl
  unfold rot
  rw [e1, e2]
  refine bits_or_nat _ _ ?_ ?_
  · rw [low32]; omega
  · show x >>> n < _
    rw [Nat.shiftRight_eq_div_pow]
    exact Nat.lt_of_le_of_lt (Nat.div_le_self _ _) hx
structure N8 where
  (a b c d e f g h : Nat)
def N8.v (n : N8) : V8 := ⟨n.a, n.b, n.c, n.d, n.e, n.f, n.g, n.h⟩
structure N8.Ok (n : N8) : Prop where
  (a : n.a < 2 ^ 32) (b : n.b < 2 ^ 32) (c : n.c < 2 ^ 32) (d : n.d < 2 ^ 32) (e : n.e < 2 ^ 32) (f : n.f < 2 ^ 32) (g : n.g < 2 ^ 32) (h : n.h < 2 ^ 32)
def t1N (e f g h x : Nat) : Nat := Nat.land (Nat.add (Nat.add (Nat.add h x) (Nat.xor (Nat.land e f) (Nat.land (Nat.xor 4294967295 e) g))) (Nat.xor (Nat.xor (rotN e 26 6) (rotN e 21 11)) (rotN e 7 25))) 4294967295
def t2N (a b c : Nat) : Nat := Nat.add (Nat.xor (Nat.xor (rotN a 30 2) (rotN a 19 13)) (rotN a 10 22)) (Nat.xor (Nat.xor (Nat.land a b) (Nat.land a c)) (Nat.land b c))
def rndN (n : N8) (x : Nat) : N8 := ⟨Nat.land (Nat.add (t1N n.e n.f n.g n.h x) (t2N n.a n.b n.c)) 4294967295, n.a, n.b, n.c, Nat.land (Nat.add n.d (t1N n.e n.f n.g n.h x)) 4294967295, n.e, n.f, n.g⟩
theorem xor3_nat (x y z : Nat) (hx : x < 2 ^ 32) (hy : y < 2 ^ 32) (hz : z < 2 ^ 32) : Go.bits .xor .u32 (Go.bits .xor .u32 (x : Int) (y : Int)) (z : Int) = ((Nat.xor (Nat.xor x y) z : Nat) : Int) := by
  rw [bits_xor_nat x y hx hy]
  exact bits_xor_nat _ z (Nat.xor_lt_two_pow hx hy) hz
theorem rnd_ok {n : N8} (h : n.Ok) (x : Nat) : (rndN n x).Ok := by
  refine ⟨?_, h.a, h.b, h.c, ?_, h.e, h.f, h.g⟩
  · show Nat.land _ _ < _; rw [low32]; omega
  · show Nat.land _ _ < _; rw [low32]; omega
theorem sum_nat {n : N8} (h : n.Ok) (x : Nat) (k w : Int) (hx : (x : Int) = k + w) : sumI n.v k w = ((t1N n.e n.f n.g n.h x : Nat) : Int) := by
  unfold sumI N8.v
  simp only
  have eM : (if IntKind.u32.signed = true then (-1 : Int) else IntKind.u32.max) = ((4294967295 : Nat) : Int) := by decide
  rw [eM, show (6 : Int) = ((6 : Nat) : Int) from rfl, show (11 : Int) = ((11 : Nat) : Int) from rfl, show (25 : Int) = ((25 : Nat) : Int) from rfl,
    rot_nat n.e 26 6 h.e rfl (by decide) (by decide), rot_nat n.e 21 11 h.e rfl (by decide) (by decide), rot_nat n.e 7 25 h.e rfl (by decide) (by decide),
    xor3_nat _ _ _ (rotN_lt _ _ _ h.e) (rotN_lt _ _ _ h.e) (rotN_lt _ _ _ h.e), bits_and_nat _ _ h.e h.f, bits_xor_nat _ _ (by decide) h.e, bits_and_nat _ _ (Nat.xor_lt_two_pow (by decide) h.e) h.g,
    bits_xor_nat _ _ (Nat.and_lt_two_pow _ h.f) (Nat.and_lt_two_pow _ h.g)]
  simp only [IntKind.wrap_u32]
  unfold t1N
  rw [low32]
  show _ = (((n.h + x + ((n.e &&& n.f) ^^^ ((4294967295 ^^^ n.e) &&& n.g)) + Nat.xor (Nat.xor (rotN n.e 26 6) (rotN n.e 21 11)) (rotN n.e 7 25)) % 4294967296 : Nat) : Int)
  generalize Nat.xor (Nat.xor (rotN n.e 26 6) (rotN n.e 21 11)) (rotN n.e 7 25) = S
  generalize ((n.e &&& n.f) ^^^ ((4294967295 ^^^ n.e) &&& n.g)) = C
  omega
theorem rnd_nat {n : N8} (h : n.Ok) (x : Nat) (k w : Int) (hx : (x : Int) = k + w) : rndI n.v k w = (rndN n x).v := by
  have h1 := sum_nat h x k w hx
  unfold rndI
  rw [h1]
  unfold N8.v rndN t2N
  simp only
  rw [show (2 : Int) = ((2 : Nat) : Int) from rfl, show (13 : Int) = ((13 : Nat) : Int) from rfl, show (22 : Int) = ((22 : Nat) : Int) from rfl,
    rot_nat n.a 30 2 h.a rfl (by decide) (by decide), rot_nat n.a 19 13 h.a rfl (by decide) (by decide), rot_nat n.a 10 22 h.a rfl (by decide) (by decide),
    xor3_nat _ _ _ (rotN_lt _ _ _ h.a) (rotN_lt _ _ _ h.a) (rotN_lt _ _ _ h.a), bits_and_nat _ _ h.a h.b, bits_and_nat _ _ h.a h.c, bits_and_nat _ _ h.b h.c,
    xor3_nat _ _ _ (Nat.and_lt_two_pow _ h.b) (Nat.and_lt_two_pow _ h.c) (Nat.and_lt_two_pow _ h.c), low32, low32]
  congr 1
/-- evaluated ahead -/
noncomputable def force {α : Type} (x : Nat) (f : Nat → α) : α := Nat.rec (f 0) (fun n _ => f (Nat.succ n)) x
theorem force_eq {α : Type} (x : Nat) (f : Nat → α) : force x f = f x := by cases x <;> rfl
noncomputable def rounds {α : Type} : List Nat → Nat → Nat → Nat → Nat → Nat → Nat → Nat → Nat → (Nat → Nat → Nat → Nat → Nat → Nat → Nat → Nat → α) → α :=
  fun l => List.rec (fun a b c d e f g h k => k a b c d e f g h)
    (fun x _ ih a b c d e f g h k =>
      force (t1N e f g h x) fun t1 => force (Nat.land (Nat.add t1 (t2N a b c)) 4294967295) fun a' => force (Nat.land (Nat.add d t1) 4294967295) fun e' => ih a' a b c e' e f g k) l
theorem rounds_eq {α : Type} : ∀ (l : List Nat) (n : N8) (k : Nat → Nat → Nat → Nat → Nat → Nat → Nat → Nat → α), rounds l n.a n.b n.c n.d n.e n.f n.g n.h k = (let m := l.foldl rndN n; k m.a m.b m.c m.d m.e m.f m.g m.h)
  | [], n, k => rfl
  | x :: l, n, k => by
    have ih := rounds_eq l (rndN n x) k
    have h0 : rounds (x :: l) n.a n.b n.c n.d n.e n.f n.g n.h k = force (t1N n.e n.f n.g n.h x) fun t1 => force (Nat.land (Nat.add t1 (t2N n.a n.b n.c)) 4294967295) fun a' => force (Nat.land (Nat.add n.d t1) 4294967295) fun e' => rounds l a' n.a n.b n.c e' n.e n.f n.g k := rfl
    rw [h0, force_eq, force_eq, force_eq]
    exact ih
def addN (m n : N8) : N8 := ⟨Nat.land (Nat.add m.a n.a) 4294967295, Nat.land (Nat.add m.b n.b) 4294967295, Nat.land (Nat.add m.c n.c) 4294967295, Nat.land (Nat.add m.d n.d) 4294967295, Nat.land (Nat.add m.e n.e) 4294967295, Nat.land (Nat.add m.f n.f) 4294967295, Nat.land (Nat.add m.g n.g) 4294967295, Nat.land (Nat.add m.h n.h) 4294967295⟩
def blkN (l : List Nat) (n : N8) : N8 := addN n (l.foldl rndN n)
theorem add_ok (m n : N8) : (addN m n).Ok := by
  constructor <;> (show Nat.land _ _ < _; rw [low32]; omega)
theorem foldN_ok : ∀ (l : List Nat) (n : N8), n.Ok → (l.foldl rndN n).Ok
  | [], _, h => h
  | x :: l, n, h => foldN_ok l _ (rnd_ok h x)
theorem rnds_nat {n : N8} (h : n.Ok) (l : List Nat) (ks ws : List Int) : ∀ j, j ≤ l.length → (∀ (i x : Nat), i < j → l[i]? = some x → (x : Int) = rd ks i + rd ws i) → rndsI n.v ks ws j = ((l.take j).foldl rndN n).v
  | 0, _, _ => rfl
  | j + 1, hj, hx => by
    have ih := rnds_nat h l ks ws j (by omega) fun i x hi hl => hx i x (by omega) hl
    have hlj : l[j]? = some l[j] := List.getElem?_eq_getElem (by omega)
    have e1 : l.take (j + 1) = l.take j ++ [l[j]] := List.take_succ_eq_append_getElem (by omega)
    rw [rndsI, ih, rnd_nat (foldN_ok _ _ h) l[j] _ _ (hx j _ (by omega) hlj), e1, List.foldl_append]
    rfl
theorem beh_nat {n : N8} (h : n.Ok) (l : List Nat) (b : List Int) (hl : l.length = 64) (hx : ∀ (i x : Nat), i < 64 → l[i]? = some x → (x : Int) = rd KW i + rd (w2I b 48) i) : behV n.v b = (blkN l n).v := by
  have h1 := rnds_nat h l KW (w2I b 48) 64 (by omega) hx
  rw [List.take_of_length_le (by omega)] at h1
  unfold behV behI
  rw [h1]
  unfold blkN
  generalize l.foldl rndN n = m
  unfold addN N8.v V8.l
  simp only [low32]
  rfl
/-- so many blocks alike -/
noncomputable def iter (l : List Nat) (k : Nat) : Nat → Nat → Nat → Nat → Nat → Nat → Nat → Nat → N8 :=
  Nat.rec (fun a b c d e f g h => ⟨a, b, c, d, e, f, g, h⟩)
    (fun _ ih a b c d e f g h => rounds l a b c d e f g h fun a1 b1 c1 d1 e1 f1 g1 h1 =>
      force (Nat.land (Nat.add a a1) 4294967295) fun a2 => force (Nat.land (Nat.add b b1) 4294967295) fun b2 => force (Nat.land (Nat.add c c1) 4294967295) fun c2 => force (Nat.land (Nat.add d d1) 4294967295) fun d2 =>
      force (Nat.land (Nat.add e e1) 4294967295) fun e2 => force (Nat.land (Nat.add f f1) 4294967295) fun f2 => force (Nat.land (Nat.add g g1) 4294967295) fun g2 => force (Nat.land (Nat.add h h1) 4294967295) fun h2 => ih a2 b2 c2 d2 e2 f2 g2 h2) k
noncomputable def iterN (l : List Nat) : Nat → N8 → N8
  | 0, n => n
  | k + 1, n => iterN l k (blkN l n)
theorem iter_eq (l : List Nat) : ∀ (k : Nat) (n : N8), iter l k n.a n.b n.c n.d n.e n.f n.g n.h = iterN l k n
  | 0, _ => rfl
  | k + 1, n => by
    have ih := iter_eq l k (blkN l n)
    rw [iterN, ← ih]
    have h0 : iter l (k + 1) n.a n.b n.c n.d n.e n.f n.g n.h = rounds l n.a n.b n.c n.d n.e n.f n.g n.h fun a1 b1 c1 d1 e1 f1 g1 h1 =>
      force (Nat.land (Nat.add n.a a1) 4294967295) fun a2 => force (Nat.land (Nat.add n.b b1) 4294967295) fun b2 => force (Nat.land (Nat.add n.c c1) 4294967295) fun c2 => force (Nat.land (Nat.add n.d d1) 4294967295) fun d2 =>
      force (Nat.land (Nat.add n.e e1) 4294967295) fun e2 => force (Nat.land (Nat.add n.f f1) 4294967295) fun f2 => force (Nat.land (Nat.add n.g g1) 4294967295) fun g2 => force (Nat.land (Nat.add n.h h1) 4294967295) fun h2 => iter l k a2 b2 c2 d2 e2 f2 g2 h2 := rfl
    rw [h0, rounds_eq]
    simp only [force_eq]
    rfl
theorem iterN_add (l : List Nat) : ∀ (j k : Nat) (n : N8), iterN l (j + k) n = iterN l k (iterN l j n)
  | 0, k, n => by rw [Nat.zero_add]; rfl
  | j + 1, k, n => by rw [show j + 1 + k = (j + k) + 1 by omega, iterN, iterN, iterN_add l j k]
theorem iterN_ok (l : List Nat) : ∀ (k : Nat) (n : N8), n.Ok → (iterN l k n).Ok
  | 0, _, h => h
  | k + 1, n, h => iterN_ok l k _ (add_ok _ _)
theorem fold_iter (l : List Nat) (x : Int) (hl : l.length = 64) (hx : ∀ (i y : Nat), i < 64 → l[i]? = some y → (y : Int) = rd KW i + rd (w2I (List.replicate 64 x) 48) i) (X : List Int) (m : Nat) : ∀ (k : Nat) (n : N8), n.Ok → foldB (k + m) n.v (List.replicate (64 * k) x ++ X) = foldB m (iterN l k n).v X
  | 0, n, h => by rw [Nat.zero_add]; rfl
  | k + 1, n, h => by
    have e1 : List.replicate (64 * (k + 1)) x = List.replicate 64 x ++ List.replicate (64 * k) x := by rw [List.replicate_append_replicate]; congr 1; omega
    rw [show k + 1 + m = (k + m) + 1 by omega, foldB, e1, List.append_assoc, List.take_left' (List.length_replicate), List.drop_left' (List.length_replicate), beh_nat h l _ hl hx, iterN]
    exact fold_iter l x hl hx X m k (blkN l n) (add_ok _ _)
end Go.Proofs.Ytpnjbogpooejhaa.H
