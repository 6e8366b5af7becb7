import Derived.Test.YtgflghnbpbiakaaV03
import Derived.Test.YtgflghnbpbiakaaV02
import Derived.Test.YtgflghnbpbiakaaV00
import Derived.Test.YtgflghnbpbiakaaV04
import Derived.Test.YtgflghnbpbiakaaV01
import Derived.Test.YtgflghnbpbiakaaV05
import Derived.Lib.Bytes
namespace Go.Proofs.Ytgflghnbpbiakaa.Su
open Go.RowKit Go.Proofs.Ytgflghnbpbiakaa.XH Go.Proofs.Ytgflghnbpbiakaa.H Go.Proofs.YtgflghnbpbiakaaW.PrintWords Go.Proofs.YtgflghnbpbiakaaW.PrintLast Go.Proofs.YtgflghnbpbiakaaW.PrintMore Go.Proofs.YtgflghnbpbiakaaXe Go.Proofs.YtgflghnbpbiakaaXs
set_option linter.unusedVariables false
set_option linter.unusedSimpArgs false
attribute [local go_sem ↓] Go.wp_at_zero Go.wp_at_succ
attribute [local go_sem] valUpon
def highI (n : Int) : Nat → List Int
  | 0 => []
  | m + 1 => n / 256 ^ m % 256 :: highI n m
def numI (l : List Int) : Int := l.foldl (fun n c => 256 * n + c) 0
theorem highI_len (n : Int) : ∀ m, (highI n m).length = m
  | 0 => rfl
  | m + 1 => by rw [highI, List.length_cons, highI_len n m]
theorem highI_byte (n : Int) : ∀ m, Bytes (highI n m)
  | 0 => fun x h => by simp [highI] at h
  | m + 1 => fun x h => by
    rw [highI] at h
    rcases List.mem_cons.1 h with rfl | h
    · exact ⟨Int.emod_nonneg _ (by decide), Int.emod_lt_of_pos _ (by decide)⟩
    · exact highI_byte n m x h
theorem num_from (a : Int) : ∀ l : List Int, l.foldl (fun n c => 256 * n + c) a = a * 256 ^ l.length + numI l
  | [] => by simp [numI]
  | c :: l => by
    have h1 : numI (c :: l) = (256 * 0 + c) * 256 ^ l.length + numI l := by rw [numI, List.foldl_cons, num_from (256 * 0 + c) l]
    rw [List.foldl_cons, num_from (256 * a + c) l, h1, List.length_cons, Int.pow_succ]
    generalize (256 : Int) ^ l.length = p
    rw [Int.add_mul, show (256 * 0 + c) = c by omega, show a * (p * 256) = 256 * a * p by rw [Int.mul_comm p, ← Int.mul_assoc, Int.mul_comm a]]
    omega
theorem num_cons (c : Int) (l : List Int) : numI (c :: l) = c * 256 ^ l.length + numI l := by
  rw [numI, List.foldl_cons, num_from]
  simp
theorem num_snoc (l : List Int) (c : Int) : numI (l ++ [c]) = 256 * numI l + c := by
  rw [numI, List.foldl_append]
  rfl
theorem pow_pos' (m : Nat) : (0 : Int) < 256 ^ m := by
  induction m with
  | zero => decide
  | succ m ih => rw [Int.pow_succ]; omega
theorem num_bound : ∀ l : List Int, Bytes l → 0 ≤ numI l ∧ numI l < 256 ^ l.length
  | [], _ => by simp [numI]
  | c :: l, h => by
    have h1 := num_bound l (fun x hx => h x (List.mem_cons_of_mem _ hx))
    have h2 := h c List.mem_cons_self
    have hp := pow_pos' l.length
    rw [num_cons, List.length_cons, Int.pow_succ]
    have h3 : c * 256 ^ l.length ≤ 255 * 256 ^ l.length := Int.mul_le_mul_of_nonneg_right (by omega) (by omega)
    have h4 : 0 ≤ c * 256 ^ l.length := Int.mul_nonneg h2.1 (by omega)
    constructor
    · omega
    · omega
theorem num_high (n : Int) : ∀ m, numI (highI n m) = n % 256 ^ m
  | 0 => by simp [highI, numI, Int.emod_one]
  | m + 1 => by
    rw [highI, num_cons, highI_len, num_high n m]
    have hp := pow_pos' m
    rw [Int.pow_succ]
    generalize (256 : Int) ^ m = p at hp ⊢
    have h1 := Int.emod_add_mul_ediv n p
    have h2 := Int.emod_add_mul_ediv (n / p) 256
    have h3 : n % (p * 256) = n - p * 256 * (n / p / 256) := by rw [Int.emod_def, Int.ediv_ediv_of_nonneg (by omega)]
    rw [h3]
    have h4 : n / p % 256 * p = p * (n / p) - p * (256 * (n / p / 256)) := by
      have h5 : n / p % 256 = n / p - 256 * (n / p / 256) := by omega
      rw [h5, Int.sub_mul, Int.mul_comm _ p, Int.mul_comm _ p]
    rw [h4, Int.mul_assoc p]
    omega
theorem high_mod (n k : Int) : ∀ m, highI (k * 256 ^ m + n) m = highI n m
  | 0 => rfl
  | m + 1 => by
    rw [highI, highI, Int.pow_succ]
    have hp := pow_pos' m
    have h1 : (k * (256 ^ m * 256) + n) / 256 ^ m % 256 = n / 256 ^ m % 256 := by
      rw [show k * ((256 : Int) ^ m * 256) + n = n + (k * 256) * 256 ^ m by rw [Int.add_comm, Int.mul_assoc, Int.mul_comm 256], Int.add_mul_ediv_right _ _ (by omega)]
      omega
    rw [h1, show k * ((256 : Int) ^ m * 256) + n = (k * 256) * 256 ^ m + n by rw [Int.mul_assoc, Int.mul_comm 256], high_mod n (k * 256) m]
theorem high_num : ∀ l : List Int, Bytes l → highI (numI l) l.length = l
  | [], _ => rfl
  | c :: l, h => by
    have hb : Bytes l := fun x hx => h x (List.mem_cons_of_mem _ hx)
    have h1 := num_bound l hb
    have h2 := h c List.mem_cons_self
    have hp := pow_pos' l.length
    rw [List.length_cons, highI, num_cons, high_mod, high_num l hb]
    congr 1
    rw [Int.add_comm, Int.add_mul_ediv_right _ _ (by omega), Int.ediv_eq_zero_of_lt h1.1 h1.2]
    omega
theorem shr_high (n : Int) (j : Nat) (hj : j < 8) : shr .i64 n (wrap64 (8 * (j : Int))) = n / 256 ^ j := by
  have e : wrap64 (8 * (j : Int)) = ((8 * j : Nat) : Int) := by unfold wrap64; omega
  rw [e]
  unfold shr
  rw [Int.toNat_natCast, Nat.min_eq_left (show 8 * j ≤ IntKind.i64.bits by simp [IntKind.bits]; omega), Int.pow_mul]
  rfl
theorem high_l0 (n : Int) : ∀ (j : Nat) (acc : List Int), j ≤ 8 → acc.length ≤ 8 - j → super_high.l0 (j + 1) n acc (wrap64 ((j : Int) - 1)) = some (acc ++ highI n j)
  | 0, acc, h, ha => by
    rw [super_high.l0, if_neg (by unfold wrap64; omega), highI, List.append_nil]
  | j + 1, acc, h, ha => by
    have e : wrap64 (((j + 1 : Nat) : Int) - 1) = (j : Int) := by unfold wrap64; omega
    rw [super_high.l0, e, if_pos (by omega), if_pos (by unfold wrap64; omega), if_pos (by omega), shr_high n j (by omega), high_l0 n j _ (by omega) (by rw [List.length_append, List.length_singleton]; omega), highI, List.append_assoc]
    rfl
theorem rhigh_l0 (n : Int) : ∀ (j : Nat) (acc : List Int), j ≤ 8 → acc.length ≤ 8 - j → retconref13_high.l0 (j + 1) n acc (wrap64 ((j : Int) - 1)) = some (acc ++ highI n j)
  | 0, acc, h, ha => by
    rw [retconref13_high.l0, if_neg (by unfold wrap64; omega), highI, List.append_nil]
  | j + 1, acc, h, ha => by
    have e : wrap64 (((j + 1 : Nat) : Int) - 1) = (j : Int) := by unfold wrap64; omega
    rw [retconref13_high.l0, e, if_pos (by omega), if_pos (by unfold wrap64; omega), if_pos (by omega), shr_high n j (by omega), rhigh_l0 n j _ (by omega) (by rw [List.length_append, List.length_singleton]; omega), highI, List.append_assoc]
    rfl
theorem c_high (n : Int) (m : Nat) (hm : m ≤ 8) (w : World) : Calls Try.prog 39 #[.int .i64 n, .int .i64 (m : Int)] w fun e w' => ∃ v, e = .returned v ∧ Kd.R (Kd.int .u8) 5 w' w.heap.size (fun _ => True) v (highI n m) ∧ Below w.heap.size w w' :=
  super_high.calls (m + 1) n m (highI n m) w (high_l0 n m [] hm (by simp))
theorem c_rhigh (n : Int) (m : Nat) (hm : m ≤ 8) (w : World) : Calls Try.prog 41 #[.int .i64 n, .int .i64 (m : Int)] w fun e w' => ∃ v, e = .returned v ∧ Kd.R (Kd.int .u8) 5 w' w.heap.size (fun _ => True) v (highI n m) ∧ Below w.heap.size w w' :=
  retconref13_high.calls (m + 1) n m (highI n m) w (rhigh_l0 n m [] hm (by simp))
theorem take_num (l : List Int) (j : Nat) (h : j < l.length) : l.take (j + 1) = l.take j ++ [rd l (j : Int)] := by
  rw [List.take_succ_eq_append_getElem h]
  simp [Go.Proofs.YtgflghnbpbiakaaW.PrintWords.rd, List.getD, List.getElem?_eq_getElem h]
theorem rnum_l0 (l : List Int) (hb : Bytes l) (hl : l.length ≤ 8) (h7 : l.length = 8 → rd l 0 = 0) : ∀ (k j : Nat), j + k = l.length → retconref13_number.l0 (k + 1) l (numI (l.take j)) (j : Int) = some (numI l)
  | 0, j, h => by
    rw [retconref13_number.l0, if_neg (by omega), List.take_of_length_le (by omega)]
  | k + 1, j, h => by
    have hs : numI (l.take (j + 1)) = 256 * numI (l.take j) + rd l (j : Int) := by rw [take_num l j (by omega), num_snoc]
    have hbj : Bytes (l.take j) := fun x hx => hb x (List.mem_of_mem_take hx)
    have h1 := num_bound _ hbj
    have h2 : 0 ≤ rd l (j : Int) ∧ rd l (j : Int) < 256 := by
      have := hb (rd l (j : Int)) (by rw [show rd l (j : Int) = l[j] by simp [Go.Proofs.YtgflghnbpbiakaaW.PrintWords.rd, List.getD, List.getElem?_eq_getElem (show j < l.length by omega)]]; exact List.getElem_mem _)
      exact this
    have h3 : numI (l.take j) < 281474976710656 := by
      by_cases h8 : j = 7
      · have h9 := h7 (by omega)
        match l, hb, hl, h, h9 with
        | c :: l', hb, hl, h, h9 =>
          subst h8
          simp only [Go.Proofs.YtgflghnbpbiakaaW.PrintWords.rd, List.getD] at h9
          simp at h9
          subst h9
          rw [List.take_succ_cons, num_cons, Int.zero_mul, Int.zero_add]
          have := (num_bound (l'.take 6) (fun x hx => hb x (List.mem_cons_of_mem _ (List.mem_of_mem_take hx)))).2
          refine Int.lt_of_lt_of_le this ?_
          rw [List.length_take]
          have hle : min 6 l'.length = 6 := by simp at h; omega
          rw [hle]
          decide
      · have h10 : (l.take j).length ≤ 6 := by rw [List.length_take]; omega
        have h11 : (256 : Int) ^ (l.take j).length ≤ 256 ^ 6 := by
          have := Nat.pow_le_pow_right (n := 256) (by decide) h10
          have h12 : ((256 ^ (l.take j).length : Nat) : Int) ≤ ((256 ^ 6 : Nat) : Int) := by omega
          simpa [Int.natCast_pow] using h12
        have h13 : (256 : Int) ^ 6 = 281474976710656 := by decide
        omega
    rw [retconref13_number.l0, if_pos (by omega), if_pos (by omega), show wrap64 ((j : Int) + 1) = ((j + 1 : Nat) : Int) by unfold wrap64; omega]
    rw [show wrap64 (wrap64 (256 * numI (l.take j)) + wrap64 (rd l (j : Int))) = numI (l.take (j + 1)) by rw [hs]; unfold wrap64; omega]
    exact rnum_l0 l hb hl h7 k (j + 1) (by omega)
theorem rnum_f (l : List Int) (hb : Bytes l) (hl : l.length ≤ 8) (h7 : l.length = 8 → rd l 0 = 0) : retconref13_number.f (l.length + 1) l = some (numI l) := rnum_l0 l hb hl h7 l.length 0 (by omega)
end Go.Proofs.Ytgflghnbpbiakaa.Su
namespace Go.Proofs.Ytgflghnbpbiakaa.Su
open Go.RowKit Go.Proofs.Ytgflghnbpbiakaa.XH Go.Proofs.Ytgflghnbpbiakaa.H Go.Proofs.YtgflghnbpbiakaaW.PrintWords Go.Proofs.YtgflghnbpbiakaaW.PrintLast Go.Proofs.YtgflghnbpbiakaaW.PrintMore Go.Proofs.YtgflghnbpbiakaaXe Go.Proofs.YtgflghnbpbiakaaXs
set_option linter.unusedVariables false
set_option linter.unusedSimpArgs false
attribute [local go_sem ↓] Go.wp_at_zero Go.wp_at_succ
attribute [local go_sem] valUpon
theorem eqi_ints {P : Program} {w : World} {d : Nat} {e : TypeId} {k : IntKind} (hu : P.underlying e = some (.int k)) (hs : (P.info? e).map (·.size) = some 1) (x y : List Int) (hxy : x.length = y.length) : ∀ (n o : Nat), o + n ≤ x.length →
    (Op.eqItems (d + 1) e 1 (x.map (Value.int k)).toArray (y.map (Value.int k)).toArray (List.range' o n)).run P w = .ok (decide ((x.drop o).take n = (y.drop o).take n)) w
  | 0, o, _ => by simp [Op.eqItems]
  | n + 1, o, h => by
    obtain ⟨i, hi, hsi⟩ := Option.map_eq_some_iff.1 hs
    have h1 : o < x.length := by omega
    have h2 : o < y.length := by omega
    rw [List.range'_succ]
    have ha : (part e (x.map (Value.int k)).toArray (o * 1)).run P w = .ok (.int k x[o]) w := by simp [part, isAgg, run_underlying hu, h1]
    have hb : (part e (y.map (Value.int k)).toArray (o * 1)).run P w = .ok (.int k y[o]) w := by simp [part, isAgg, run_underlying hu, h2]
    have he : (Op.equalIn (d + 1) e (.int k x[o]) (.int k y[o])).run P w = .ok (x[o] == y[o]) w := by simp [Op.equalIn, run_underlying hu]
    rw [Go.Proofs.YtgflghnbpbiakaaXa.eqi_cons ha hb he (eqi_ints hu hs x y hxy n (o + 1) (by omega))]
    congr 1
    rw [List.drop_eq_getElem_cons h1, List.drop_eq_getElem_cons h2, List.take_succ_cons, List.take_succ_cons, Bool.eq_iff_iff]
    simp only [Bool.and_eq_true, beq_iff_eq, decide_eq_true_eq, List.cons.injEq]
theorem eq_id (d : Nat) (w : World) (x y : List Int) (hx : x.length = 32) (hy : y.length = 32) : (Op.equalIn (d + 2) 23 (.agg (u8s x).toArray) (.agg (u8s y).toArray)).run Try.prog w = .ok (decide (x = y)) w := by
  refine Go.Proofs.YtgflghnbpbiakaaXa.eqB_of Try.underlying23 (n := 32) (e := 5) (c := 1) (by kernel_rfl) (by kernel_rfl) (is := List.range' 0 32) (by decide) ?_
  have h := eqi_ints (P := Try.prog) (w := w) (d := d) (k := .u8) Try.underlying5 (by kernel_rfl) x y (by omega) 32 0 (by omega)
  rw [List.drop_zero, List.drop_zero, List.take_of_length_le (by omega), List.take_of_length_le (by omega)] at h
  exact h
/-- a superblock -/
structure SP where
  num : Int
  root : List Int
  at' : Int
  size : Int
def z32 : List Int := List.replicate 32 0
def s0 : SP := ⟨0, z32, 0, 0⟩
def c25 (s : SP) : List Value := .int .i64 s.num :: (u8s s.root ++ [.int .i64 s.at', .int .i64 s.size])
theorem c25_len (s : SP) (h : s.root.length = 32) : (c25 s).length = 35 := by simp [c25, u8s, h]
theorem c25_0 (s : SP) : (c25 s)[0]? = some (.int .i64 s.num) := rfl
theorem c25_33 (s : SP) (h : s.root.length = 32) : (c25 s)[33]? = some (.int .i64 s.at') := by
  rw [c25, List.getElem?_cons_succ, List.getElem?_append_right (by simp [u8s, h])]
  simp [u8s, h]
theorem c25_34 (s : SP) (h : s.root.length = 32) : (c25 s)[34]? = some (.int .i64 s.size) := by
  rw [c25, List.getElem?_cons_succ, List.getElem?_append_right (by simp [u8s, h])]
  simp [u8s, h]
theorem c25_one (s : SP) : (c25 s).toArray.all (·.oneCell') = true := by simp [c25, u8s, Value.oneCell']
def chk (s : SP) : Bool := decide (1 ≤ s.num) && decide (s.num ≤ 1099511627775) && decide (0 ≤ s.at') && decide (s.at' < 65536) && decide (0 ≤ s.size) && decide (s.size ≤ 1048576)
def chkE (s : SP) : Int := if chk s then 0 else 2
theorem chk_iff (s : SP) : chk s = true ↔ 1 ≤ s.num ∧ s.num ≤ 1099511627775 ∧ 0 ≤ s.at' ∧ s.at' < 65536 ∧ 0 ≤ s.size ∧ s.size ≤ 1048576 := by
  simp [chk, and_assoc]
noncomputable def BN25 (parts : Array (Nat × Value)) : Sem Value := Instr.build 25 parts
theorem bn25 (parts : Array (Nat × Value)) : Instr.build 25 parts = BN25 parts := rfl
theorem BN25.z (w : World) : (BN25 #[]).run Try.prog w = .ok (.agg (c25 s0).toArray) w := by unfold BN25; kernel_rfl
theorem BN25.num (n : Int) (w : World) : (BN25 #[(0, .int .i64 n)]).run Try.prog w = .ok (.agg (c25 ⟨n, z32, 0, 0⟩).toArray) w := by unfold BN25; kernel_rfl
theorem BN25.two (n a : Int) (w : World) : (BN25 #[(0, .int .i64 n), (2, .int .i64 a)]).run Try.prog w = .ok (.agg (c25 ⟨n, z32, a, 0⟩).toArray) w := by unfold BN25; kernel_rfl
theorem BN25.three (n a b : Int) (w : World) : (BN25 #[(0, .int .i64 n), (2, .int .i64 a), (3, .int .i64 b)]).run Try.prog w = .ok (.agg (c25 ⟨n, z32, a, b⟩).toArray) w := by unfold BN25; kernel_rfl
theorem part_root (s : SP) (h : s.root.length = 32) (w : World) : (part 23 (c25 s).toArray 1).run Try.prog w = .ok (.agg (u8s s.root).toArray) w := by
  have h1 : ((c25 s).toArray.extract 1 33) = (u8s s.root).toArray := by
    apply Array.ext'
    rw [Array.toList_extract, List.extract_eq_take_drop]
    show List.take (33 - 1) (List.drop 1 (c25 s)) = u8s s.root
    rw [c25, List.drop_succ_cons, List.drop_zero, List.take_append_of_le_length (by simp [u8s, h]), List.take_of_length_le (by simp [u8s, h])]
  have h2 := Try.underlying23
  obtain ⟨i, hi⟩ := Option.isSome_iff_exists.1 (show (Try.prog.info? 23).isSome = true by kernel_rfl)
  have h5 : Try.prog.cellsOf 23 = 32 := by kernel_rfl
  have h4 := run_sizeOf w hi
  rw [h5] at h4
  unfold part
  simp only [Sem.run_bind, isAgg, run_underlying h2, Result.andThen_ok, Sem.run_pure, if_true, h4, h1]
theorem part_at (s : SP) (h : s.root.length = 32) (k : Nat) (x : Int) (hk : (c25 s)[k]? = some (.int .i64 x)) (w : World) : (part 3 (c25 s).toArray k).run Try.prog w = .ok (.int .i64 x) w := by
  have h2 := Try.underlying3
  obtain ⟨hl, hv⟩ := List.getElem?_eq_some_iff.1 hk
  simp [part, isAgg, run_underlying h2, hl, hv]
theorem eq25 (d : Nat) (a b : SP) (ha : a.root.length = 32) (hb : b.root.length = 32) (w : World) : (Op.equalIn (d + 3) 25 (.agg (c25 a).toArray) (.agg (c25 b).toArray)).run Try.prog w = .ok ((a.num == b.num) && (decide (a.root = b.root) && ((a.at' == b.at') && (a.size == b.size)))) w := by
  have h3 := Try.underlying3
  refine eqA_of Try.underlying25 (by kernel_rfl) ?_
  refine eqf_cons (by rfl) (part_at a ha 0 _ (c25_0 a) w) (part_at b hb 0 _ (c25_0 b) w) (by go_simp) ?_
  refine eqf_cons (by rfl) (part_root a ha w) (part_root b hb w) (eq_id d w _ _ ha hb) ?_
  refine eqf_cons (by rfl) (part_at a ha 33 _ (c25_33 a ha) w) (part_at b hb 33 _ (c25_33 b hb) w) (by go_simp) ?_
  exact eqf_last (by rfl) (part_at a ha 34 _ (c25_34 a ha) w) (part_at b hb 34 _ (c25_34 b hb) w) (by go_simp)
theorem eq25_same (d : Nat) (a : SP) (ha : a.root.length = 32) (w : World) : (Op.equalIn (d + 3) 25 (.agg (c25 a).toArray) (.agg (c25 a).toArray)).run Try.prog w = .ok true w := by
  rw [eq25 d a a ha ha w]
  simp
set_option maxHeartbeats 8000000 in
set_option maxRecDepth 100000 in
theorem c_check (s : SP) (hl : s.root.length = 32) (w : World) : Calls Try.prog 12 #[.agg (c25 s).toArray] w fun e w' => e = .returned (.int .i64 (chkE s)) ∧ Below w.heap.size w w' := by
  have e0 := c25_0 s
  have e33 := c25_33 s hl
  have e34 := c25_34 s hl
  have HC := Aside0.mk (chk_iff s)
  have HQ : Aside0 (chkE s = if chk s then 0 else 2) := ⟨rfl⟩
  obtain ⟨q, hq⟩ : ∃ z, chkE s = z := ⟨_, rfl⟩
  rw [hq] at HQ ⊢
  obtain ⟨cs, hcs⟩ : ∃ z, c25 s = z := ⟨_, rfl⟩
  rw [hcs] at e0 e33 e34 ⊢
  obtain ⟨n, a, z⟩ : Int × Int × Int := ⟨0, 0, 0⟩
  obtain ⟨n, hn⟩ : ∃ z, s.num = z := ⟨_, rfl⟩
  obtain ⟨a, ha⟩ : ∃ z, s.at' = z := ⟨_, rfl⟩
  obtain ⟨z, hz⟩ : ∃ y, s.size = y := ⟨_, rfl⟩
  rw [hn] at e0 HC
  rw [ha] at e33 HC
  rw [hz] at e34 HC
  clear hn ha hz hcs hq hl
  have HE := Aside0.mk (And.intro e0 (And.intro e33 e34))
  clear e0 e33 e34
  have HP := Aside0.mk (Hp.start w)
  by_cases c0 : n < 1
  · have d0 : decide (n < 1) = true := decide_eq_true c0
    have hq : q = 2 := by rw [HQ.out, if_neg]; intro h; have := HC.out.1 h; omega
    subst hq
    clear c0
    go_enter Try.func12, Try.ntmps12
    go_wp2_with (first | ((with_reducible refine gate_dst (N := 1) rfl ?_); refine ev_box rfl 25 (.tmp 0) rfl (cs.toArray) rfl ?_; intro g w1 hge hg hb; have h0 := cell_in hg 0 HE.out.1; have h33 := cell_in hg 33 HE.out.2.1; have h34 := cell_in hg 34 HE.out.2.2; have HPn := Aside0.mk (HP.out.newB hb hg hge); clear HP; have HP := HPn; clear HPn; clear hge hg hb))
    go_ret
    exact ⟨rfl, HP.out.below⟩
  have d0 : decide (n < 1) = false := decide_eq_false c0
  by_cases c1 : 1099511627775 < n
  · have d1 : decide (1099511627775 < n) = true := decide_eq_true c1
    have hq : q = 2 := by rw [HQ.out, if_neg]; intro h; have := HC.out.1 h; omega
    subst hq
    clear c0 c1
    go_enter Try.func12, Try.ntmps12
    go_wp2_with (first | ((with_reducible refine gate_dst (N := 1) rfl ?_); refine ev_box rfl 25 (.tmp 0) rfl (cs.toArray) rfl ?_; intro g w1 hge hg hb; have h0 := cell_in hg 0 HE.out.1; have h33 := cell_in hg 33 HE.out.2.1; have h34 := cell_in hg 34 HE.out.2.2; have HPn := Aside0.mk (HP.out.newB hb hg hge); clear HP; have HP := HPn; clear HPn; clear hge hg hb))
    go_ret
    exact ⟨rfl, HP.out.below⟩
  have d1 : decide (1099511627775 < n) = false := decide_eq_false c1
  by_cases c2 : a < 0
  · have d2 : decide (a < 0) = true := decide_eq_true c2
    have hq : q = 2 := by rw [HQ.out, if_neg]; intro h; have := HC.out.1 h; omega
    subst hq
    clear c0 c1 c2
    go_enter Try.func12, Try.ntmps12
    go_wp2_with (first | ((with_reducible refine gate_dst (N := 1) rfl ?_); refine ev_box rfl 25 (.tmp 0) rfl (cs.toArray) rfl ?_; intro g w1 hge hg hb; have h0 := cell_in hg 0 HE.out.1; have h33 := cell_in hg 33 HE.out.2.1; have h34 := cell_in hg 34 HE.out.2.2; have HPn := Aside0.mk (HP.out.newB hb hg hge); clear HP; have HP := HPn; clear HPn; clear hge hg hb))
    go_ret
    exact ⟨rfl, HP.out.below⟩
  have d2 : decide (a < 0) = false := decide_eq_false c2
  by_cases c3 : 65536 ≤ a
  · have d3 : decide (65536 ≤ a) = true := decide_eq_true c3
    have hq : q = 2 := by rw [HQ.out, if_neg]; intro h; have := HC.out.1 h; omega
    subst hq
    clear c0 c1 c2 c3
    go_enter Try.func12, Try.ntmps12
    go_wp2_with (first | ((with_reducible refine gate_dst (N := 1) rfl ?_); refine ev_box rfl 25 (.tmp 0) rfl (cs.toArray) rfl ?_; intro g w1 hge hg hb; have h0 := cell_in hg 0 HE.out.1; have h33 := cell_in hg 33 HE.out.2.1; have h34 := cell_in hg 34 HE.out.2.2; have HPn := Aside0.mk (HP.out.newB hb hg hge); clear HP; have HP := HPn; clear HPn; clear hge hg hb))
    go_ret
    exact ⟨rfl, HP.out.below⟩
  have d3 : decide (65536 ≤ a) = false := decide_eq_false c3
  by_cases c4 : z < 0
  · have d4 : decide (z < 0) = true := decide_eq_true c4
    have hq : q = 2 := by rw [HQ.out, if_neg]; intro h; have := HC.out.1 h; omega
    subst hq
    clear c0 c1 c2 c3 c4
    go_enter Try.func12, Try.ntmps12
    go_wp2_with (first | ((with_reducible refine gate_dst (N := 1) rfl ?_); refine ev_box rfl 25 (.tmp 0) rfl (cs.toArray) rfl ?_; intro g w1 hge hg hb; have h0 := cell_in hg 0 HE.out.1; have h33 := cell_in hg 33 HE.out.2.1; have h34 := cell_in hg 34 HE.out.2.2; have HPn := Aside0.mk (HP.out.newB hb hg hge); clear HP; have HP := HPn; clear HPn; clear hge hg hb))
    go_ret
    exact ⟨rfl, HP.out.below⟩
  have d4 : decide (z < 0) = false := decide_eq_false c4
  by_cases c5 : 1048576 < z
  · have d5 : decide (1048576 < z) = true := decide_eq_true c5
    have hq : q = 2 := by rw [HQ.out, if_neg]; intro h; have := HC.out.1 h; omega
    subst hq
    clear c0 c1 c2 c3 c4 c5
    go_enter Try.func12, Try.ntmps12
    go_wp2_with (first | ((with_reducible refine gate_dst (N := 1) rfl ?_); refine ev_box rfl 25 (.tmp 0) rfl (cs.toArray) rfl ?_; intro g w1 hge hg hb; have h0 := cell_in hg 0 HE.out.1; have h33 := cell_in hg 33 HE.out.2.1; have h34 := cell_in hg 34 HE.out.2.2; have HPn := Aside0.mk (HP.out.newB hb hg hge); clear HP; have HP := HPn; clear HPn; clear hge hg hb))
    go_ret
    exact ⟨rfl, HP.out.below⟩
  have d5 : decide (1048576 < z) = false := decide_eq_false c5
  have hq : q = 0 := by rw [HQ.out, if_pos]; exact HC.out.2 (by omega)
  subst hq
  clear c0 c1 c2 c3 c4 c5
  go_enter Try.func12, Try.ntmps12
  go_wp2_with (first | ((with_reducible refine gate_dst (N := 1) rfl ?_); refine ev_box rfl 25 (.tmp 0) rfl (cs.toArray) rfl ?_; intro g w1 hge hg hb; have h0 := cell_in hg 0 HE.out.1; have h33 := cell_in hg 33 HE.out.2.1; have h34 := cell_in hg 34 HE.out.2.2; have HPn := Aside0.mk (HP.out.newB hb hg hge); clear HP; have HP := HPn; clear HPn; clear hge hg hb))
  go_ret
  exact ⟨rfl, HP.out.below⟩
set_option maxHeartbeats 8000000 in
set_option maxRecDepth 100000 in
theorem c_rcheck (s : SP) (hl : s.root.length = 32) (w : World) : Calls Try.prog 13 #[.agg (c25 s).toArray] w fun e w' => e = .returned (.int .i64 (chkE s)) ∧ Below w.heap.size w w' := by
  have e0 := c25_0 s
  have e33 := c25_33 s hl
  have e34 := c25_34 s hl
  have HC := Aside0.mk (chk_iff s)
  have HQ : Aside0 (chkE s = if chk s then 0 else 2) := ⟨rfl⟩
  obtain ⟨q, hq⟩ : ∃ z, chkE s = z := ⟨_, rfl⟩
  rw [hq] at HQ ⊢
  obtain ⟨cs, hcs⟩ : ∃ z, c25 s = z := ⟨_, rfl⟩
  rw [hcs] at e0 e33 e34 ⊢
  obtain ⟨n, a, z⟩ : Int × Int × Int := ⟨0, 0, 0⟩
  obtain ⟨n, hn⟩ : ∃ z, s.num = z := ⟨_, rfl⟩
  obtain ⟨a, ha⟩ : ∃ z, s.at' = z := ⟨_, rfl⟩
  obtain ⟨z, hz⟩ : ∃ y, s.size = y := ⟨_, rfl⟩
  rw [hn] at e0 HC
  rw [ha] at e33 HC
  rw [hz] at e34 HC
  clear hn ha hz hcs hq hl
  have HE := Aside0.mk (And.intro e0 (And.intro e33 e34))
  clear e0 e33 e34
  have HP := Aside0.mk (Hp.start w)
  by_cases c0 : n < 1
  · have d0 : decide (n < 1) = true := decide_eq_true c0
    have hq : q = 2 := by rw [HQ.out, if_neg]; intro h; have := HC.out.1 h; omega
    subst hq
    clear c0
    go_enter Try.func13, Try.ntmps13
    go_wp2_with (first | ((with_reducible refine gate_dst (N := 1) rfl ?_); refine ev_box rfl 25 (.tmp 0) rfl (cs.toArray) rfl ?_; intro g w1 hge hg hb; have h0 := cell_in hg 0 HE.out.1; have h33 := cell_in hg 33 HE.out.2.1; have h34 := cell_in hg 34 HE.out.2.2; have HPn := Aside0.mk (HP.out.newB hb hg hge); clear HP; have HP := HPn; clear HPn; clear hge hg hb))
    go_ret
    exact ⟨rfl, HP.out.below⟩
  have d0 : decide (n < 1) = false := decide_eq_false c0
  by_cases c1 : 1099511627775 < n
  · have d1 : decide (1099511627775 < n) = true := decide_eq_true c1
    have hq : q = 2 := by rw [HQ.out, if_neg]; intro h; have := HC.out.1 h; omega
    subst hq
    clear c0 c1
    go_enter Try.func13, Try.ntmps13
    go_wp2_with (first | ((with_reducible refine gate_dst (N := 1) rfl ?_); refine ev_box rfl 25 (.tmp 0) rfl (cs.toArray) rfl ?_; intro g w1 hge hg hb; have h0 := cell_in hg 0 HE.out.1; have h33 := cell_in hg 33 HE.out.2.1; have h34 := cell_in hg 34 HE.out.2.2; have HPn := Aside0.mk (HP.out.newB hb hg hge); clear HP; have HP := HPn; clear HPn; clear hge hg hb))
    go_ret
    exact ⟨rfl, HP.out.below⟩
  have d1 : decide (1099511627775 < n) = false := decide_eq_false c1
  by_cases c2 : a < 0
  · have d2 : decide (a < 0) = true := decide_eq_true c2
    have hq : q = 2 := by rw [HQ.out, if_neg]; intro h; have := HC.out.1 h; omega
    subst hq
    clear c0 c1 c2
    go_enter Try.func13, Try.ntmps13
    go_wp2_with (first | ((with_reducible refine gate_dst (N := 1) rfl ?_); refine ev_box rfl 25 (.tmp 0) rfl (cs.toArray) rfl ?_; intro g w1 hge hg hb; have h0 := cell_in hg 0 HE.out.1; have h33 := cell_in hg 33 HE.out.2.1; have h34 := cell_in hg 34 HE.out.2.2; have HPn := Aside0.mk (HP.out.newB hb hg hge); clear HP; have HP := HPn; clear HPn; clear hge hg hb))
    go_ret
    exact ⟨rfl, HP.out.below⟩
  have d2 : decide (a < 0) = false := decide_eq_false c2
  by_cases c3 : 65536 ≤ a
  · have d3 : decide (65536 ≤ a) = true := decide_eq_true c3
    have hq : q = 2 := by rw [HQ.out, if_neg]; intro h; have := HC.out.1 h; omega
    subst hq
    clear c0 c1 c2 c3
    go_enter Try.func13, Try.ntmps13
    go_wp2_with (first | ((with_reducible refine gate_dst (N := 1) rfl ?_); refine ev_box rfl 25 (.tmp 0) rfl (cs.toArray) rfl ?_; intro g w1 hge hg hb; have h0 := cell_in hg 0 HE.out.1; have h33 := cell_in hg 33 HE.out.2.1; have h34 := cell_in hg 34 HE.out.2.2; have HPn := Aside0.mk (HP.out.newB hb hg hge); clear HP; have HP := HPn; clear HPn; clear hge hg hb))
    go_ret
    exact ⟨rfl, HP.out.below⟩
  have d3 : decide (65536 ≤ a) = false := decide_eq_false c3
  by_cases c4 : z < 0
  · have d4 : decide (z < 0) = true := decide_eq_true c4
    have hq : q = 2 := by rw [HQ.out, if_neg]; intro h; have := HC.out.1 h; omega
    subst hq
    clear c0 c1 c2 c3 c4
    go_enter Try.func13, Try.ntmps13
    go_wp2_with (first | ((with_reducible refine gate_dst (N := 1) rfl ?_); refine ev_box rfl 25 (.tmp 0) rfl (cs.toArray) rfl ?_; intro g w1 hge hg hb; have h0 := cell_in hg 0 HE.out.1; have h33 := cell_in hg 33 HE.out.2.1; have h34 := cell_in hg 34 HE.out.2.2; have HPn := Aside0.mk (HP.out.newB hb hg hge); clear HP; have HP := HPn; clear HPn; clear hge hg hb))
    go_ret
    exact ⟨rfl, HP.out.below⟩
  have d4 : decide (z < 0) = false := decide_eq_false c4
  by_cases c5 : 1048576 < z
  · have d5 : decide (1048576 < z) = true := decide_eq_true c5
    have hq : q = 2 := by rw [HQ.out, if_neg]; intro h; have := HC.out.1 h; omega
    subst hq
    clear c0 c1 c2 c3 c4 c5
    go_enter Try.func13, Try.ntmps13
    go_wp2_with (first | ((with_reducible refine gate_dst (N := 1) rfl ?_); refine ev_box rfl 25 (.tmp 0) rfl (cs.toArray) rfl ?_; intro g w1 hge hg hb; have h0 := cell_in hg 0 HE.out.1; have h33 := cell_in hg 33 HE.out.2.1; have h34 := cell_in hg 34 HE.out.2.2; have HPn := Aside0.mk (HP.out.newB hb hg hge); clear HP; have HP := HPn; clear HPn; clear hge hg hb))
    go_ret
    exact ⟨rfl, HP.out.below⟩
  have d5 : decide (1048576 < z) = false := decide_eq_false c5
  have hq : q = 0 := by rw [HQ.out, if_pos]; exact HC.out.2 (by omega)
  subst hq
  clear c0 c1 c2 c3 c4 c5
  go_enter Try.func13, Try.ntmps13
  go_wp2_with (first | ((with_reducible refine gate_dst (N := 1) rfl ?_); refine ev_box rfl 25 (.tmp 0) rfl (cs.toArray) rfl ?_; intro g w1 hge hg hb; have h0 := cell_in hg 0 HE.out.1; have h33 := cell_in hg 33 HE.out.2.1; have h34 := cell_in hg 34 HE.out.2.2; have HPn := Aside0.mk (HP.out.newB hb hg hge); clear HP; have HP := HPn; clear HPn; clear hge hg hb))
  go_ret
  exact ⟨rfl, HP.out.below⟩
end Go.Proofs.Ytgflghnbpbiakaa.Su
namespace Go.Proofs.Ytgflghnbpbiakaa.Su
open Go.RowKit Go.Proofs.Ytgflghnbpbiakaa.XH Go.Proofs.Ytgflghnbpbiakaa.H Go.Proofs.YtgflghnbpbiakaaW.PrintWords Go.Proofs.YtgflghnbpbiakaaW.PrintLast Go.Proofs.YtgflghnbpbiakaaW.PrintMore Go.Proofs.YtgflghnbpbiakaaXe Go.Proofs.YtgflghnbpbiakaaXs
set_option linter.unusedVariables false
set_option linter.unusedSimpArgs false
attribute [local go_sem ↓] Go.wp_at_zero Go.wp_at_succ
attribute [local go_sem] valUpon
def fifS (s : SP) : List Int := 82 :: 67 :: (highI s.num 8 ++ (s.root ++ (highI s.at' 4 ++ highI s.size 4)))
noncomputable def packS (s : SP) : List Int := fifS s ++ (sha (fifS s)).take 14
theorem sha_lenU (b : List Int) : (sha b).length = 32 := outI_len _ _ (Nat.le_refl _)
theorem fifS_len (s : SP) (h : s.root.length = 32) : (fifS s).length = 50 := by simp [fifS, highI_len, h]
theorem packS_len (s : SP) (h : s.root.length = 32) : (packS s).length = 64 := by
  rw [packS, List.length_append, fifS_len s h, List.length_take, sha_lenU]
  rfl
/-- the superblock that bytes would be -/
def readS (b : List Int) : SP := ⟨numI ((b.take 10).drop 2), (b.take 42).drop 10, numI ((b.take 46).drop 42), numI ((b.take 50).drop 46)⟩
theorem readS_root (b : List Int) (h : b.length = 64) : (readS b).root.length = 32 := by
  simp [readS, List.length_drop, List.length_take, h]
theorem take2 (b : List Int) (h : 2 ≤ b.length) : b.take 2 = [rd b 0, rd b 1] := by
  match b, h with
  | x0 :: x1 :: r, _ => rfl
theorem bytes_sub {b : List Int} (h : Bytes b) (n m : Nat) : Bytes ((b.take n).drop m) := fun x hx => h x (List.mem_of_mem_take (List.mem_of_mem_drop hx))
theorem mid_cut (b : List Int) (i j : Nat) (h : i ≤ j) : b.take i ++ (b.take j).drop i = b.take j := by
  have := List.take_append_drop i (b.take j)
  rwa [List.take_take, Nat.min_eq_left h] at this
theorem fif_read (b : List Int) (hl : b.length = 64) (hB : Bytes b) : fifS (readS b) = 82 :: 67 :: (b.take 50).drop 2 := by
  have h1 : highI (readS b).num 8 = (b.take 10).drop 2 := by
    have := high_num ((b.take 10).drop 2) (bytes_sub hB _ _)
    rwa [show ((b.take 10).drop 2).length = 8 by simp [List.length_drop, List.length_take, hl]] at this
  have h2 : highI (readS b).at' 4 = (b.take 46).drop 42 := by
    have := high_num ((b.take 46).drop 42) (bytes_sub hB _ _)
    rwa [show ((b.take 46).drop 42).length = 4 by simp [List.length_drop, List.length_take, hl]] at this
  have h3 : highI (readS b).size 4 = (b.take 50).drop 46 := by
    have := high_num ((b.take 50).drop 46) (bytes_sub hB _ _)
    rwa [show ((b.take 50).drop 46).length = 4 by simp [List.length_drop, List.length_take, hl]] at this
  have e : (b.take 50).drop 2 = (b.take 10).drop 2 ++ ((b.take 42).drop 10 ++ ((b.take 46).drop 42 ++ (b.take 50).drop 46)) := by
    have k1 := mid_cut b 2 10 (by omega)
    have k2 := mid_cut b 10 42 (by omega)
    have k3 := mid_cut b 42 46 (by omega)
    have k4 := mid_cut b 46 50 (by omega)
    have k5 := mid_cut b 2 50 (by omega)
    have h : b.take 2 ++ (b.take 50).drop 2 = b.take 2 ++ ((b.take 10).drop 2 ++ ((b.take 42).drop 10 ++ ((b.take 46).drop 42 ++ (b.take 50).drop 46))) := by
      rw [k5, ← List.append_assoc (b.take 2), k1, ← List.append_assoc (b.take 10), k2, ← List.append_assoc (b.take 42), k3, k4]
    exact List.append_cancel_left h
  rw [fifS, h1, h2, h3, e]
  rfl
/-- what the bytes ahead and the digest say -/
theorem pack_read (b : List Int) (hl : b.length = 64) (hB : Bytes b) : packS (readS b) = b ↔ (rd b 0 = 82 ∧ rd b 1 = 67 ∧ (sha (b.take 50)).take 14 = b.drop 50) := by
  have hf := fif_read b hl hB
  have h2 := take2 b (by omega)
  have k5 := mid_cut b 2 50 (by omega)
  have h50 : (b.take 50).length = 50 := by rw [List.length_take]; omega
  have hfl : (82 :: 67 :: (b.take 50).drop 2 : List Int).length = 50 := by simp [List.length_drop, List.length_take, hl]
  rw [packS, hf]
  constructor
  · intro h
    have h3 : 82 :: 67 :: (b.take 50).drop 2 = b.take 50 := by
      have := congrArg (List.take 50) h
      rwa [List.take_left' hfl] at this
    have h4 : (82 : Int) = rd b 0 ∧ (67 : Int) = rd b 1 := by
      rw [← k5, h2] at h3
      simp only [List.cons_append, List.nil_append, List.cons.injEq] at h3
      exact ⟨h3.1, h3.2.1⟩
    refine ⟨h4.1.symm, h4.2.symm, ?_⟩
    rw [h3] at h
    have := congrArg (List.drop 50) h
    rwa [List.drop_left' h50] at this
  · rintro ⟨h3, h4, h5⟩
    have h6 : 82 :: 67 :: (b.take 50).drop 2 = b.take 50 := by
      rw [← k5, h2, h3, h4]
      simp
    rw [h6, h5, List.take_append_drop]
noncomputable def isS (b : List Int) : Bool := decide (b.length = 64) && (decide (rd b 2 = 0) && (chk (readS b) && decide (packS (readS b) = b)))
noncomputable def unpS (b : List Int) : SP := if isS b then readS b else s0
theorem isS_iff (b : List Int) : isS b = true ↔ b.length = 64 ∧ rd b 2 = 0 ∧ chk (readS b) = true ∧ packS (readS b) = b := by simp [isS]
theorem unpS_root (b : List Int) : (unpS b).root.length = 32 := by
  unfold unpS
  split
  · exact readS_root b ((isS_iff b).1 ‹_›).1
  · rfl
theorem isS_prog (b : List Int) (hB : Bytes b) : isS b = true ↔ b.length = 64 ∧ rd b 0 = 82 ∧ rd b 1 = 67 ∧ (sha (b.take 50)).take 14 = b.drop 50 ∧ rd b 2 = 0 ∧ chk (readS b) = true := by
  rw [isS_iff]
  constructor
  · rintro ⟨h1, h2, h3, h4⟩
    obtain ⟨k1, k2, k3⟩ := (pack_read b h1 hB).1 h4
    exact ⟨h1, k1, k2, k3, h2, h3⟩
  · rintro ⟨h1, k1, k2, k3, h2, h3⟩
    exact ⟨h1, h2, h3, (pack_read b h1 hB).2 ⟨k1, k2, k3⟩⟩
theorem fifS_bytes (s : SP) (hB : Bytes s.root) : Bytes (fifS s) := by
  intro x hx
  unfold fifS at hx
  simp only [List.mem_cons, List.mem_append] at hx
  rcases hx with rfl | rfl | h | h | h | h
  · decide
  · decide
  · exact highI_byte _ _ x h
  · exact hB x h
  · exact highI_byte _ _ x h
  · exact highI_byte _ _ x h
theorem read_pack (s : SP) (hl : s.root.length = 32) (h : chk s = true) : readS (packS s) = s := by
  obtain ⟨h1, h2, h3, h4, h5, h6⟩ := (chk_iff s).1 h
  obtain ⟨n, r, a, z⟩ := s
  dsimp only at h1 h2 h3 h4 h5 h6 hl
  have e8 := highI_len n 8
  have ea := highI_len a 4
  have ez := highI_len z 4
  have hn := num_high n 8
  have han := num_high a 4
  have hzn := num_high z 4
  obtain ⟨N, hN⟩ : ∃ x, highI n 8 = x := ⟨_, rfl⟩
  obtain ⟨M, hM⟩ : ∃ x, highI a 4 = x := ⟨_, rfl⟩
  obtain ⟨Z, hZ⟩ : ∃ x, highI z 4 = x := ⟨_, rfl⟩
  rw [hN] at e8 hn
  rw [hM] at ea han
  rw [hZ] at ez hzn
  obtain ⟨T, hT⟩ : ∃ x, (sha (fifS ⟨n, r, a, z⟩)).take 14 = x := ⟨_, rfl⟩
  have hp : packS ⟨n, r, a, z⟩ = 82 :: 67 :: (N ++ (r ++ (M ++ (Z ++ T)))) := by
    rw [packS, hT, fifS, hN, hM, hZ]
    simp only [List.cons_append, List.append_assoc]
  rw [hp, readS]
  have k1 : List.drop 2 (List.take 10 (82 :: 67 :: (N ++ (r ++ (M ++ (Z ++ T)))))) = N := by
    rw [List.take_succ_cons, List.take_succ_cons, List.drop_succ_cons, List.drop_succ_cons, List.drop_zero, List.take_left' e8]
  have k2 : List.drop 10 (List.take 42 (82 :: 67 :: (N ++ (r ++ (M ++ (Z ++ T)))))) = r := by
    rw [List.drop_take, List.drop_succ_cons, List.drop_succ_cons, List.drop_left' e8, List.take_left' (by rw [hl])]
  have k3 : List.drop 42 (List.take 46 (82 :: 67 :: (N ++ (r ++ (M ++ (Z ++ T)))))) = M := by
    rw [List.drop_take, List.drop_succ_cons, List.drop_succ_cons, ← List.append_assoc, List.drop_left' (by rw [List.length_append, e8, hl]), List.take_left' (by rw [ea])]
  have k4 : List.drop 46 (List.take 50 (82 :: 67 :: (N ++ (r ++ (M ++ (Z ++ T)))))) = Z := by
    rw [List.drop_take, List.drop_succ_cons, List.drop_succ_cons, ← List.append_assoc, ← List.append_assoc, List.drop_left' (by rw [List.length_append, List.length_append, e8, hl, ea]), List.take_left' (by rw [ez])]
  rw [k1, k2, k3, k4, hn, han, hzn]
  congr 1
  · rw [show (256 : Int) ^ 8 = 18446744073709551616 by decide]; omega
  · rw [show (256 : Int) ^ 4 = 4294967296 by decide]; omega
  · rw [show (256 : Int) ^ 4 = 4294967296 by decide]; omega
theorem rd2_pack (s : SP) (h : chk s = true) : rd (packS s) 2 = 0 := by
  obtain ⟨h1, h2, _⟩ := (chk_iff s).1 h
  have e : rd (packS s) 2 = s.num / 256 ^ 7 % 256 := rfl
  rw [e, show (256 : Int) ^ 7 = 72057594037927936 by decide]
  omega
theorem isS_pack (s : SP) (hl : s.root.length = 32) (h : chk s = true) : isS (packS s) = true := by
  rw [isS_iff]
  exact ⟨packS_len s hl, rd2_pack s h, by rw [read_pack s hl h]; exact h, by rw [read_pack s hl h]⟩
theorem unpS_pack (s : SP) (hl : s.root.length = 32) (h : chk s = true) : unpS (packS s) = s := by rw [unpS, if_pos (isS_pack s hl h), read_pack s hl h]
end Go.Proofs.Ytgflghnbpbiakaa.Su
namespace Go.Proofs.Ytgflghnbpbiakaa.Su
open Go.Proofs.Ytgflghnbpbiakaa.H hiding C_ints cellL cellN ev_copy ev_store_mid frozC i64k run_cut_all run_cut_arr run_cut_to setL set_self
open Go.RowKit Go.Proofs.Ytgflghnbpbiakaa.XH Go.Proofs.YtgflghnbpbiakaaW.PrintWords Go.Proofs.YtgflghnbpbiakaaW.PrintLast Go.Proofs.YtgflghnbpbiakaaW.PrintMore Go.Proofs.YtgflghnbpbiakaaXe Go.Proofs.YtgflghnbpbiakaaXs
set_option linter.unusedVariables false
set_option linter.unusedSimpArgs false
attribute [local go_sem ↓] Go.wp_at_zero Go.wp_at_succ
attribute [local go_sem] valUpon
attribute [local go_sem ↓ high] bn23 bn25
theorem z32_len : z32.length = 32 := by simp [z32]
def told8n (w : World) (L : List Int) (e : Ending) (w' : World) : Prop := ∃ (g : Nat) (l : List Int), e = .returned (.tuple #[.slice (some ⟨g, 0, none⟩) L.length l.length, .int .i64 0]) ∧ l.take L.length = L ∧ L.length ≤ l.length ∧ l.length ≤ 9223372036854775807 ∧ w.heap.size ≤ g ∧ w'.heap[g]? = some (.cells (u8s l).toArray 5 (0, 0)) ∧ Below w.heap.size w w'
theorem Hp.only1 {w0 w : World} {R : Res} {Rs : List Res} (h : Hp w0 w (R :: Rs)) : Hp w0 w [R] := by
  obtain ⟨hb, G, hs⟩ := h
  cases hs with
  | cons h1 h2 h3 h4 => exact ⟨hb, _, .cons h1 h2 .nil fun k _ hk => hk⟩
theorem results_two_tmps {P : Program} {fn : Func} {p p2 : Tmp} (h : fn.results = #[.tmp p, .tmp p2]) (tmps : Array Value) (w : World) {v v2 : Value} (hp : tmps.getD p undef = v) (hp2 : tmps.getD p2 undef = v2) : (results fn tmps).run P w = .ok (.tuple #[v, v2]) w := by
  have hp' : tmps[p]?.getD undef = v := by simpa using hp
  have hp2' : tmps[p2]?.getD undef = v2 := by simpa using hp2
  simp [results, h, hp', hp2']
theorem C_root (s : SP) (hl : s.root.length = 32) {w : World} {g : Nat} {t : TypeId} (hg : w.heap[g]? = some (.cells (c25 s).toArray t (0, 0))) : Kd.C (Kd.int .u8) w (some ⟨g, 1, none⟩) 32 s.root := by
  have h := C_ints (w := w) (k := .u8) (ad := ⟨g, 1, none⟩) (l := s.root) (by omega) (fun j x hj => by
    have hj2 : j < s.root.length := (List.getElem?_eq_some_iff.1 hj).1
    rw [add_at, cell_of_row w g _ _ _ _ hg, show (c25 s).toArray[1 + j]? = (c25 s)[1 + j]? by simp, Nat.add_comm 1 j, c25, List.getElem?_cons_succ, List.getElem?_append_left (by simp [u8s]; omega)]
    simp [u8s, hj])
  rwa [hl] at h
theorem lits_fif (s : SP) : ([[82, 67], highI s.num 8, s.root, highI s.at' 4, highI s.size 4] : List (List Int)).flatten = fifS s := by simp [fifS]
theorem pack_two {L P : List Int} {s : SP} (hL : L = fifS s) (hP : P = packS s) (hl : s.root.length = 32) : L ++ (sha L).take 14 = P ∧ L.length + 14 = P.length ∧ L.length = 50 ∧ ((sha L).take 14).length = 14 := by
  subst hL hP
  refine ⟨rfl, ?_, fifS_len s hl, ?_⟩
  · rw [packS_len s hl, fifS_len s hl]
  · rw [List.length_take, sha_lenU]; rfl
theorem C_preU {w : World} {g : Nat} {L l : List Int} (hg : w.heap[g]? = some (.cells (u8s l).toArray 5 (0, 0))) (hm : l.length ≤ 9223372036854775807) (ht : l.take L.length = L) (hl : L.length ≤ l.length) : Kd.C (Kd.int .u8) w (some ⟨g, 0, none⟩) L.length L := by
  have h := Kd.C_take (m := L.length) (C_blkW (k := .u8) hg hm) hl
  rw [ht] at h
  exact h
theorem C_take14 {w : World} {g : Nat} {l : List Int} {t : TypeId} (hg : w.heap[g]? = some (.cells (u8s l).toArray t (0, 0))) (hl : l.length = 32) : Kd.C (Kd.int .u8) w (some ⟨g, 0, none⟩) 14 (l.take 14) := by
  have h0 : Kd.C (Kd.int .u8) w (some ⟨g, 0, none⟩) l.length l := C_blkW (k := .u8) hg (by omega)
  have h := Kd.C_take (m := 14) h0 (by omega)
  first | exact h | (have e : (l.take 14).length = 14 := by rw [List.length_take]; omega
                     rwa [e] at h)
set_option maxHeartbeats 8000000 in
set_option maxRecDepth 100000 in
theorem c_spack8 (s : SP) (hl : s.root.length = 32) (hk : chk s = true) (w : World) :
    Calls Try.prog 9 #[.agg (c25 s).toArray] w (told8n w (packS s)) := by
  have HE := Aside0.mk (And.intro (c25_0 s) (And.intro (c25_33 s hl) (c25_34 s hl)))
  have CK := Aside0.mk (fun w => c_check s hl w)
  rw [show chkE s = 0 from by unfold chkE; rw [if_pos hk]] at CK
  have HCR := Aside0.mk (fun (w : World) (g : Nat) (hg : w.heap[g]? = some (.cells (c25 s).toArray 25 (0, 0))) => C_root s hl hg)
  have HLC := Aside0.mk (c25_len s hl)
  have HFI := Aside0.mk (lits_fif s)
  have CH8 := Aside0.mk (fun w => c_high s.num 8 (by decide) w)
  have CHA := Aside0.mk (fun w => c_high s.at' 4 (by decide) w)
  have CHZ := Aside0.mk (fun w => c_high s.size 4 (by decide) w)
  obtain ⟨X, hX⟩ : ∃ z, packS s = z := ⟨_, rfl⟩
  have HPT := Aside0.mk (fun {L : List Int} (h : L = fifS s) => pack_two h hX.symm hl)
  rw [hX]
  obtain ⟨cs, hcs⟩ : ∃ z, c25 s = z := ⟨_, rfl⟩
  rw [hcs] at HE CK HCR HLC ⊢
  obtain ⟨rt, hrt⟩ : ∃ z, s.root = z := ⟨_, rfl⟩
  have HRL := Aside0.mk (show rt.length = 32 from by rw [← hrt]; exact hl)
  obtain ⟨N8, hN8⟩ : ∃ z, highI s.num 8 = z := ⟨_, rfl⟩
  have HN8 := Aside0.mk (show N8.length = 8 from by rw [← hN8]; exact highI_len _ _)
  obtain ⟨M4, hM4⟩ : ∃ z, highI s.at' 4 = z := ⟨_, rfl⟩
  have HM4 := Aside0.mk (show M4.length = 4 from by rw [← hM4]; exact highI_len _ _)
  obtain ⟨Z4, hZ4⟩ : ∃ z, highI s.size 4 = z := ⟨_, rfl⟩
  have HZ4 := Aside0.mk (show Z4.length = 4 from by rw [← hZ4]; exact highI_len _ _)
  obtain ⟨n, hn⟩ : ∃ z, s.num = z := ⟨_, rfl⟩
  obtain ⟨a, ha⟩ : ∃ z, s.at' = z := ⟨_, rfl⟩
  obtain ⟨z, hz⟩ : ∃ y, s.size = y := ⟨_, rfl⟩
  rw [hrt] at HCR HFI
  rw [hN8, hM4, hZ4] at HFI
  rw [hN8] at CH8
  rw [hM4] at CHA
  rw [hZ4] at CHZ
  rw [hn] at HE CH8
  rw [ha] at HE CHA
  rw [hz] at HE CHZ
  clear hX hcs hrt hN8 hM4 hZ4 hn ha hz hk hl
  have HP := Aside0.mk (Hp.start w)
  have hcut : ∀ (g : Nat) (w : World), (Instr.sliceAt 23 (.pointer (some ⟨g, 1, none⟩)) none none none).run Try.prog w = .ok (.slice (some ⟨g, 1, none⟩) 32 32) w := fun g w => run_cut_all (P := Try.prog) Try.underlying23 (by kernel_rfl) (by decide) g 1 w
  go_enter Try.func9, Try.ntmps9
  go_wp2_with (first | ((with_reducible refine gate_dst (N := 1) rfl ?_); refine ev_box rfl 25 (.tmp 0) rfl (cs.toArray) rfl ?_; intro g_s wa hge hg hb; have HPn := Aside0.mk (HP.out.newB hb hg hge); clear HP; have HP := HPn; clear HPn; clear hge hg hb) | ((with_reducible refine gate_dst (N := 7) rfl ?_); refine ev_load rfl 25 (.tmp 1) rfl g_s rfl (HP.out.blk 0 rfl) Try.underlying25 rfl (by rw [List.size_toArray, HLC.out]; kernel_rfl) ?_))
  refine (CK.out _).mono ?_; rintro e w1 ⟨rfl, hb⟩; have HPn := Aside0.mk (HP.out.call hb); clear HP; have HP := HPn; clear HPn; clear hb
  go_wp2_with fail
  refine held_named (S := (fun w' => w'.cell? ⟨g_s, 0, none⟩ = some (.int .i64 n) ∧ w'.cell? ⟨g_s, 33, none⟩ = some (.int .i64 a) ∧ w'.cell? ⟨g_s, 34, none⟩ = some (.int .i64 z))) (by kernel_rfl) (fun wd0 hwd0 => ?_)
  have HPn := Aside0.mk (HP.out.drewN 1)
  rw [← World.drew_is_drewN, hwd0] at HPn
  clear HP hwd0
  have HP := HPn
  clear HPn
  refine ⟨by (try dsimp only); exact ⟨cell_in (HP.out.blk 0 rfl) 0 HE.out.1, cell_in (HP.out.blk 0 rfl) 33 HE.out.2.1, cell_in (HP.out.blk 0 rfl) 34 HE.out.2.2⟩, fun hHeld => ?_⟩
  refine wpAnyH_take (i := 1) (oi := ({ dst := (some 13), op := (Op.fieldAddr 25 (Operand.tmp 1) 0), type := 0, pos := "super.go:38", after := #[], guard := none } : Oper)) (v := ?_) rfl (by kernel_rfl) (by kernel_rfl) (by kernel_rfl) (fun _ _ _ h => h) (Or.inl ⟨by rfl, ?_⟩) hHeld ?_
  rotate_left
  · intro w_ hSw; (try dsimp only at hSw); go_simp; try (with_reducible rfl)
  try simp only [Act.put, List.setIfInBounds_toArray, List.set_cons_zero, List.set_cons_succ]
  refine wpAnyH_take (i := 2) (oi := ({ dst := (some 14), op := (Op.load 3 (Operand.tmp 13)), type := 3, pos := "super.go:38", after := #[{ on := 1, ground := Ground.data }], guard := none } : Oper)) (v := ?_) rfl (by kernel_rfl) (by kernel_rfl) (by kernel_rfl) (fun _ _ _ h => h) (Or.inl ⟨by rfl, ?_⟩) hHeld ?_
  rotate_left
  · intro w_ hSw; (try dsimp only at hSw); go_simp; try (with_reducible rfl)
  try simp only [Act.put, List.setIfInBounds_toArray, List.set_cons_zero, List.set_cons_succ]
  refine wpAnyH_take (i := 4) (oi := ({ dst := (some 16), op := (Op.fieldAddr 25 (Operand.tmp 1) 1), type := 0, pos := "super.go:38", after := #[], guard := none } : Oper)) (v := ?_) rfl (by kernel_rfl) (by kernel_rfl) (by kernel_rfl) (fun _ _ _ h => h) (Or.inl ⟨by rfl, ?_⟩) hHeld ?_
  rotate_left
  · intro w_ hSw; (try dsimp only at hSw); go_simp; try (with_reducible rfl)
  try simp only [Act.put, List.setIfInBounds_toArray, List.set_cons_zero, List.set_cons_succ]
  refine wpAnyH_take (i := 5) (oi := ({ dst := (some 17), op := (Op.slice 23 (Operand.tmp 16) none none none), type := 26, pos := "super.go:38", after := #[{ on := 4, ground := Ground.data }], guard := none } : Oper)) (v := ?_) rfl (by kernel_rfl) (by kernel_rfl) (by kernel_rfl) (fun _ _ _ h => h) (Or.inl ⟨by rfl, ?_⟩) hHeld ?_
  rotate_left
  · intro w_ hSw; (try dsimp only at hSw); go_simp; try (with_reducible rfl)
  try simp only [Act.put, List.setIfInBounds_toArray, List.set_cons_zero, List.set_cons_succ]
  refine wpAnyH_take (i := 6) (oi := ({ dst := (some 18), op := (Op.fieldAddr 25 (Operand.tmp 1) 2), type := 0, pos := "super.go:38", after := #[], guard := none } : Oper)) (v := ?_) rfl (by kernel_rfl) (by kernel_rfl) (by kernel_rfl) (fun _ _ _ h => h) (Or.inl ⟨by rfl, ?_⟩) hHeld ?_
  rotate_left
  · intro w_ hSw; (try dsimp only at hSw); go_simp; try (with_reducible rfl)
  try simp only [Act.put, List.setIfInBounds_toArray, List.set_cons_zero, List.set_cons_succ]
  refine wpAnyH_take (i := 7) (oi := ({ dst := (some 19), op := (Op.load 3 (Operand.tmp 18)), type := 3, pos := "super.go:38", after := #[{ on := 6, ground := Ground.data }], guard := none } : Oper)) (v := ?_) rfl (by kernel_rfl) (by kernel_rfl) (by kernel_rfl) (fun _ _ _ h => h) (Or.inl ⟨by rfl, ?_⟩) hHeld ?_
  rotate_left
  · intro w_ hSw; (try dsimp only at hSw); go_simp; try (with_reducible rfl)
  try simp only [Act.put, List.setIfInBounds_toArray, List.set_cons_zero, List.set_cons_succ]
  refine wpAnyH_take (i := 9) (oi := ({ dst := (some 21), op := (Op.fieldAddr 25 (Operand.tmp 1) 3), type := 0, pos := "super.go:38", after := #[], guard := none } : Oper)) (v := ?_) rfl (by kernel_rfl) (by kernel_rfl) (by kernel_rfl) (fun _ _ _ h => h) (Or.inl ⟨by rfl, ?_⟩) hHeld ?_
  rotate_left
  · intro w_ hSw; (try dsimp only at hSw); go_simp; try (with_reducible rfl)
  try simp only [Act.put, List.setIfInBounds_toArray, List.set_cons_zero, List.set_cons_succ]
  refine wpAnyH_take (i := 10) (oi := ({ dst := (some 22), op := (Op.load 3 (Operand.tmp 21)), type := 3, pos := "super.go:38", after := #[{ on := 9, ground := Ground.data }], guard := none } : Oper)) (v := ?_) rfl (by kernel_rfl) (by kernel_rfl) (by kernel_rfl) (fun _ _ _ h => h) (Or.inl ⟨by rfl, ?_⟩) hHeld ?_
  rotate_left
  · intro w_ hSw; (try dsimp only at hSw); go_simp; try (with_reducible rfl)
  try simp only [Act.put, List.setIfInBounds_toArray, List.set_cons_zero, List.set_cons_succ]
  refine wpAnyH_ready (rs := [0, 3]) (by kernel_rfl) (by simp) ?_
  refine AllReadyH.cons (o := ({ dst := (some 12), op := (Op.buildSlice 26 2 #[(0, (Operand.const (Value.int IntKind.u8 82))), (1, (Operand.const (Value.int IntKind.u8 67)))]), type := 26, pos := "super.go:38", after := #[], guard := none } : Oper)) rfl (fun K hK => ?_) ?_
  ·
    go_simp
    have HPn := Aside0.mk (HP.out.alloc (.cells (u8s [82, 67]).toArray 5 (0, 0)))
    obtain ⟨wlit, hwl⟩ : ∃ z, wd0.alloc (.cells (u8s [82, 67]).toArray 5 (0, 0)) = z := ⟨_, rfl⟩
    obtain ⟨g_l, hgl⟩ : ∃ z, wd0.heap.size = z := ⟨_, rfl⟩
    rw [hwl, hgl] at HPn
    rw [show wd0.alloc (.cells #[.int .u8 82, .int .u8 67] 5 (0, 0)) = wlit from hwl, hgl]
    clear HP hwl hgl
    have HP := HPn
    clear HPn
    clear hHeld
    refine hK.out _ _ ?_ (fun hHeld => ?_)
    · (try dsimp only); exact ⟨cell_in (HP.out.blk 1 rfl) 0 HE.out.1, cell_in (HP.out.blk 1 rfl) 33 HE.out.2.1, cell_in (HP.out.blk 1 rfl) 34 HE.out.2.2⟩
    clear hK K
    try simp only [Act.put, List.setIfInBounds_toArray, List.set_cons_zero, List.set_cons_succ]
    refine wpAnyH_ready (rs := [3]) (by kernel_rfl) (by simp) ?_
    refine AllReadyH.cons (o := ({ dst := (some 15), op := (Op.call { callee := (Callee.value (Operand.func 39)), args := #[(Operand.tmp 14), (Operand.const (Value.int IntKind.i64 8))], argTypes := #[3, 3] }), type := 26, pos := "super.go:38", after := #[{ on := 2, ground := Ground.data }], guard := none } : Oper)) rfl (fun K hK => ?_) AllReadyH.nil
    go_simp
    refine (CH8.out _).mono ?_; rintro e w8 ⟨v8, rfl, ho, hb⟩; have HPn := Aside0.mk (HP.out.newR hb ho); clear HP; have HP := HPn; clear HPn; clear ho hb; obtain ⟨A8, c8, rfl⟩ := Kd.R_slice (HP.out.row 0 rfl)
    go_wp2_with fail
    clear hHeld
    refine hK.out _ _ ?_ (fun hHeld => ?_)
    · (try dsimp only); exact ⟨cell_in (HP.out.blk 2 rfl) 0 HE.out.1, cell_in (HP.out.blk 2 rfl) 33 HE.out.2.1, cell_in (HP.out.blk 2 rfl) 34 HE.out.2.2⟩
    clear hK K
    try simp only [Act.put, List.setIfInBounds_toArray, List.set_cons_zero, List.set_cons_succ]
    refine wpAnyH_ready (rs := [8]) (by kernel_rfl) (by simp) ?_
    refine AllReadyH.cons (o := ({ dst := (some 20), op := (Op.call { callee := (Callee.value (Operand.func 39)), args := #[(Operand.tmp 19), (Operand.const (Value.int IntKind.i64 4))], argTypes := #[3, 3] }), type := 26, pos := "super.go:38", after := #[{ on := 7, ground := Ground.data }, { on := 3, ground := Ground.chain }], guard := none } : Oper)) rfl (fun K hK => ?_) AllReadyH.nil
    go_simp
    refine (CHA.out _).mono ?_; rintro e w4 ⟨v4, rfl, ho, hb⟩; have HPn := Aside0.mk (HP.out.newR hb ho); clear HP; have HP := HPn; clear HPn; clear ho hb; obtain ⟨A4, c4, rfl⟩ := Kd.R_slice (HP.out.row 0 rfl)
    go_wp2_with fail
    clear hHeld
    refine hK.out _ _ ?_ (fun hHeld => ?_)
    · (try dsimp only); exact ⟨cell_in (HP.out.blk 3 rfl) 0 HE.out.1, cell_in (HP.out.blk 3 rfl) 33 HE.out.2.1, cell_in (HP.out.blk 3 rfl) 34 HE.out.2.2⟩
    clear hK K
    try simp only [Act.put, List.setIfInBounds_toArray, List.set_cons_zero, List.set_cons_succ]
    refine wpAnyH_ready (rs := [11]) (by kernel_rfl) (by simp) ?_
    refine AllReadyH.cons (o := ({ dst := (some 23), op := (Op.call { callee := (Callee.value (Operand.func 39)), args := #[(Operand.tmp 22), (Operand.const (Value.int IntKind.i64 4))], argTypes := #[3, 3] }), type := 26, pos := "super.go:38", after := #[{ on := 10, ground := Ground.data }, { on := 8, ground := Ground.chain }], guard := none } : Oper)) rfl (fun K hK => ?_) AllReadyH.nil
    go_simp
    refine (CHZ.out _).mono ?_; rintro e wZ ⟨vZ, rfl, ho, hb⟩; have HPn := Aside0.mk (HP.out.newR hb ho); clear HP; have HP := HPn; clear HPn; clear ho hb; obtain ⟨AZ, cZ, rfl⟩ := Kd.R_slice (HP.out.row 0 rfl)
    go_wp2_with fail
    clear hHeld
    refine hK.out _ _ ?_ (fun hHeld => ?_)
    · (try dsimp only); exact ⟨cell_in (HP.out.blk 4 rfl) 0 HE.out.1, cell_in (HP.out.blk 4 rfl) 33 HE.out.2.1, cell_in (HP.out.blk 4 rfl) 34 HE.out.2.2⟩
    clear hK K
    try simp only [Act.put, List.setIfInBounds_toArray, List.set_cons_zero, List.set_cons_succ]
    refine wpAnyH_ready (rs := [12]) (by kernel_rfl) (by simp) ?_
    refine AllReadyH.cons (o := ({ dst := (some 24), op := (Op.buildSlice 105 5 #[(0, (Operand.tmp 12)), (1, (Operand.tmp 15)), (2, (Operand.tmp 17)), (3, (Operand.tmp 20)), (4, (Operand.tmp 23))]), type := 105, pos := "super.go:38", after := #[{ on := 0, ground := Ground.data }, { on := 3, ground := Ground.data }, { on := 5, ground := Ground.data }, { on := 8, ground := Ground.data }, { on := 11, ground := Ground.data }], guard := none } : Oper)) rfl (fun K hK => ?_) AllReadyH.nil
    go_simp
    have HPn := Aside0.mk (HP.out.alloc (.cells #[.slice (some ⟨g_l, 0, none⟩) 2 2, .slice A8 N8.length c8, .slice (some ⟨g_s, 1, none⟩) 32 32, .slice A4 M4.length c4, .slice AZ Z4.length cZ] 26 (0, 0)))
    clear HP
    have HP := HPn
    clear HPn
    clear hHeld
    refine hK.out _ _ ?_ (fun hHeld => ?_)
    · (try dsimp only); exact ⟨cell_in (HP.out.blk 5 rfl) 0 HE.out.1, cell_in (HP.out.blk 5 rfl) 33 HE.out.2.1, cell_in (HP.out.blk 5 rfl) 34 HE.out.2.2⟩
    clear hK K
    try simp only [Act.put, List.setIfInBounds_toArray, List.set_cons_zero, List.set_cons_succ]
    refine wpAnyH_ready (rs := [13]) (by kernel_rfl) (by simp) ?_
    refine AllReadyH.cons (o := ({ dst := (some 25), op := (Op.call { callee := (Callee.value (Operand.func 38)), args := #[(Operand.tmp 24)], argTypes := #[105] }), type := 26, pos := "super.go:38", after := #[{ on := 12, ground := Ground.data }, { on := 11, ground := Ground.chain }], guard := none } : Oper)) rfl (fun K hK => ?_) AllReadyH.nil
    go_simp
    have HCC := Aside0.mk (c_concat8 (some ⟨wZ.heap.size, 0, none⟩) 5 [[82, 67], N8, rt, M4, Z4] _ (C_sls (e := 5) (vs := [.slice (some ⟨g_l, 0, none⟩) 2 2, .slice A8 N8.length c8, .slice (some ⟨g_s, 1, none⟩) 32 32, .slice A4 M4.length c4, .slice AZ Z4.length cZ]) (HP.out.blk 0 rfl) rfl (by simp) (fun j v d hv hd => by
      match j with
      | 0 =>
        simp at hv hd
        subst hv hd
        exact ⟨some ⟨g_l, 0, none⟩, 2, rfl, Nat.le_refl _, C_blkW (k := .u8) (l := [82, 67]) (HP.out.blk 4 rfl) (by decide)⟩
      | 1 =>
        simp at hv hd
        subst hv hd
        exact ⟨A8, c8, rfl, (Kd.R_reads' (HP.out.row 3 rfl)).2.1, (Kd.R_reads' (HP.out.row 3 rfl)).2.2⟩
      | 2 =>
        simp at hv hd
        subst hv hd
        exact ⟨some ⟨g_s, 1, none⟩, 32, by rw [HRL.out], by rw [HRL.out]; exact Nat.le_refl _, by rw [HRL.out]; exact HCR.out _ g_s (HP.out.blk 5 rfl)⟩
      | 3 =>
        simp at hv hd
        subst hv hd
        exact ⟨A4, c4, rfl, (Kd.R_reads' (HP.out.row 2 rfl)).2.1, (Kd.R_reads' (HP.out.row 2 rfl)).2.2⟩
      | 4 =>
        simp at hv hd
        subst hv hd
        exact ⟨AZ, cZ, rfl, (Kd.R_reads' (HP.out.row 1 rfl)).2.1, (Kd.R_reads' (HP.out.row 1 rfl)).2.2⟩
      | j + 5 => simp at hv)) (Nat.le_refl _) (by rw [HFI.out, (HPT.out rfl).2.2.1]; decide) (by rw [HFI.out, (HPT.out rfl).2.2.1]; decide))
    rw [HFI.out] at HCC
    refine HCC.out.mono ?_; rintro e w3 ⟨g5, l5, rfl, hta, htl, htm, hge, hg, hb⟩
    have HPn := Aside0.mk (HP.out.newB hb hg hge)
    have HL5 := Aside0.mk (And.intro hta (And.intro htl htm))
    clear HP HCC hb hg hge hta htl htm
    have HP := HPn
    clear HPn
    go_wp2_with fail
    clear hHeld
    refine hK.out _ _ ?_ (fun hHeld => ?_)
    · (try dsimp only); exact ⟨cell_in (HP.out.blk 6 rfl) 0 HE.out.1, cell_in (HP.out.blk 6 rfl) 33 HE.out.2.1, cell_in (HP.out.blk 6 rfl) 34 HE.out.2.2⟩
    clear hK K
    try simp only [Act.put, List.setIfInBounds_toArray, List.set_cons_zero, List.set_cons_succ]
    refine wpAnyH_take (i := 14) (oi := ({ dst := (some 5), op := (Op.assign (Operand.tmp 25)), type := 26, pos := "super.go:38", after := #[{ on := 13, ground := Ground.data }, { on := 13, ground := Ground.chain }, { on := 0, ground := Ground.phase }, { on := 1, ground := Ground.phase }, { on := 2, ground := Ground.phase }, { on := 3, ground := Ground.phase }, { on := 4, ground := Ground.phase }, { on := 5, ground := Ground.phase }, { on := 6, ground := Ground.phase }, { on := 7, ground := Ground.phase }, { on := 8, ground := Ground.phase }, { on := 9, ground := Ground.phase }, { on := 10, ground := Ground.phase }, { on := 11, ground := Ground.phase }, { on := 12, ground := Ground.phase }, { on := 13, ground := Ground.phase }], guard := none } : Oper)) (v := ?_) rfl (by kernel_rfl) (by kernel_rfl) (by kernel_rfl) (fun _ _ _ h => h) (Or.inl ⟨by rfl, ?_⟩) hHeld ?_
    rotate_left
    · intro w_ hSw; (try dsimp only at hSw); go_simp; try (with_reducible rfl)
    try simp only [Act.put, List.setIfInBounds_toArray, List.set_cons_zero, List.set_cons_succ]
    refine wpAnyH_done (by kernel_rfl) ?_ _
    have HPn := Aside0.mk (Hp.only1 HP.out)
    clear HP
    have HP := HPn
    clear HPn
    obtain ⟨L, hL⟩ : ∃ z, fifS s = z := ⟨_, rfl⟩
    have HT := Aside0.mk (HPT.out hL.symm)
    rw [hL] at HL5
    rw [hL]
    clear hL
    go_wp2_with fail
    have HH := HT.out
    have CS := Aside0.mk (c_hsum (some ⟨g5, 0, none⟩) l5.length L _ (C_preU (HP.out.blk 0 rfl) HL5.out.2.2 HL5.out.1 HL5.out.2.1) HL5.out.2.1 (by omega))
    clear HH
    refine CS.out.mono ?_; rintro e w4 ⟨rfl, hb⟩; have HPn := Aside0.mk (HP.out.call hb); clear HP; have HP := HPn; clear HPn; clear hb CS
    have HS := Aside0.mk (sha_lenU L)
    obtain ⟨sh, hsh⟩ : ∃ z, sha L = z := ⟨_, rfl⟩
    rw [hsh] at HS HT
    rw [hsh]
    clear hsh
    go_wp2_with (first | ((with_reducible refine gate_dst (N := 6) rfl ?_); refine ev_alloc rfl 23 rfl (.agg (u8s z32).toArray) (by kernel_rfl) ?_; intro g_i w5 hge hg hb; have HPn := Aside0.mk (HP.out.newB hb hg hge); clear HP; have HP := HPn; clear HPn; clear hge hg hb; have hcu := (fun w => run_cut_to (P := Try.prog) Try.underlying23 (by kernel_rfl) (by decide) g_i 0 14 (by decide) (by decide) w)) | ((with_reducible refine gate_store (t := 23) (p := 6) rfl ?_); refine ev_store rfl 23 (.tmp 6) (.tmp 27) rfl rfl _ rfl (cells := (u8s sh).toArray) rfl (HP.out.blk 0 rfl) (by rw [List.size_toArray, u8s_len, HS.out]; kernel_rfl) (show (u8s z32).toArray.size = (u8s sh).toArray.size from by rw [List.size_toArray, List.size_toArray, u8s_len, u8s_len, z32_len, HS.out]) (one_u8 _) ?_; intro w6 hg hgr; have HPn := Aside0.mk (HP.out.setB 0 rfl hgr hg); clear HP; have HP := HPn; clear HPn; clear hg hgr) | ((with_reducible refine gate_builtin (b := .append) (xs := #[.tmp 28, .tmp 29]) rfl ?_); (try at_builtin); have hch := C_take14 (HP.out.blk 0 rfl) HS.out; obtain ⟨wn, gn, ln, hrun, hn1, hn2, hn3, hpn⟩ := app8 HP.out 1 g5 L.length l5 (sh.take 14) rfl HL5.out.2.1 (some ⟨g_i, 0, none⟩) 14 32 hch (by have := HT.out; omega) 26; rw [HL5.out.1, HT.out.1] at hn2; rw [HT.out.2.1] at hrun hn1 hn2; have HPn := Aside0.mk hpn; have HLn := Aside0.mk (And.intro hn2 (And.intro hn1 (hn3 HL5.out.2.2))); clear HP hpn hn1 hn2 hn3 hch; refine ev_app rfl (.tmp 28) (.tmp 29) 26 26 rfl rfl rfl hrun ?_; clear hrun))
    refine bodyPost_ret (results_two_tmps rfl _ _ rfl rfl) rfl ?_
    exact ⟨gn, ln, rfl, HLn.out.1, HLn.out.2.1, HLn.out.2.2, HPn.out.blk_ge 1 rfl, HPn.out.blk 1 rfl, HPn.out.below⟩
  refine AllReadyH.cons (o := ({ dst := (some 15), op := (Op.call { callee := (Callee.value (Operand.func 39)), args := #[(Operand.tmp 14), (Operand.const (Value.int IntKind.i64 8))], argTypes := #[3, 3] }), type := 26, pos := "super.go:38", after := #[{ on := 2, ground := Ground.data }], guard := none } : Oper)) rfl (fun K hK => ?_) AllReadyH.nil
  go_simp
  refine (CH8.out _).mono ?_; rintro e w8 ⟨v8, rfl, ho, hb⟩; have HPn := Aside0.mk (HP.out.newR hb ho); clear HP; have HP := HPn; clear HPn; clear ho hb; obtain ⟨A8, c8, rfl⟩ := Kd.R_slice (HP.out.row 0 rfl)
  go_wp2_with fail
  clear hHeld
  refine hK.out _ _ ?_ (fun hHeld => ?_)
  · (try dsimp only); exact ⟨cell_in (HP.out.blk 1 rfl) 0 HE.out.1, cell_in (HP.out.blk 1 rfl) 33 HE.out.2.1, cell_in (HP.out.blk 1 rfl) 34 HE.out.2.2⟩
  clear hK K
  try simp only [Act.put, List.setIfInBounds_toArray, List.set_cons_zero, List.set_cons_succ]
  refine wpAnyH_ready (rs := [0, 8]) (by kernel_rfl) (by simp) ?_
  refine AllReadyH.cons (o := ({ dst := (some 12), op := (Op.buildSlice 26 2 #[(0, (Operand.const (Value.int IntKind.u8 82))), (1, (Operand.const (Value.int IntKind.u8 67)))]), type := 26, pos := "super.go:38", after := #[], guard := none } : Oper)) rfl (fun K hK => ?_) ?_
  ·
    go_simp
    have HPn := Aside0.mk (HP.out.alloc (.cells (u8s [82, 67]).toArray 5 (0, 0)))
    obtain ⟨wlit, hwl⟩ : ∃ z, w8.alloc (.cells (u8s [82, 67]).toArray 5 (0, 0)) = z := ⟨_, rfl⟩
    obtain ⟨g_l, hgl⟩ : ∃ z, w8.heap.size = z := ⟨_, rfl⟩
    rw [hwl, hgl] at HPn
    rw [show w8.alloc (.cells #[.int .u8 82, .int .u8 67] 5 (0, 0)) = wlit from hwl, hgl]
    clear HP hwl hgl
    have HP := HPn
    clear HPn
    clear hHeld
    refine hK.out _ _ ?_ (fun hHeld => ?_)
    · (try dsimp only); exact ⟨cell_in (HP.out.blk 2 rfl) 0 HE.out.1, cell_in (HP.out.blk 2 rfl) 33 HE.out.2.1, cell_in (HP.out.blk 2 rfl) 34 HE.out.2.2⟩
    clear hK K
    try simp only [Act.put, List.setIfInBounds_toArray, List.set_cons_zero, List.set_cons_succ]
    refine wpAnyH_ready (rs := [8]) (by kernel_rfl) (by simp) ?_
    refine AllReadyH.cons (o := ({ dst := (some 20), op := (Op.call { callee := (Callee.value (Operand.func 39)), args := #[(Operand.tmp 19), (Operand.const (Value.int IntKind.i64 4))], argTypes := #[3, 3] }), type := 26, pos := "super.go:38", after := #[{ on := 7, ground := Ground.data }, { on := 3, ground := Ground.chain }], guard := none } : Oper)) rfl (fun K hK => ?_) AllReadyH.nil
    go_simp
    refine (CHA.out _).mono ?_; rintro e w4 ⟨v4, rfl, ho, hb⟩; have HPn := Aside0.mk (HP.out.newR hb ho); clear HP; have HP := HPn; clear HPn; clear ho hb; obtain ⟨A4, c4, rfl⟩ := Kd.R_slice (HP.out.row 0 rfl)
    go_wp2_with fail
    clear hHeld
    refine hK.out _ _ ?_ (fun hHeld => ?_)
    · (try dsimp only); exact ⟨cell_in (HP.out.blk 3 rfl) 0 HE.out.1, cell_in (HP.out.blk 3 rfl) 33 HE.out.2.1, cell_in (HP.out.blk 3 rfl) 34 HE.out.2.2⟩
    clear hK K
    try simp only [Act.put, List.setIfInBounds_toArray, List.set_cons_zero, List.set_cons_succ]
    refine wpAnyH_ready (rs := [11]) (by kernel_rfl) (by simp) ?_
    refine AllReadyH.cons (o := ({ dst := (some 23), op := (Op.call { callee := (Callee.value (Operand.func 39)), args := #[(Operand.tmp 22), (Operand.const (Value.int IntKind.i64 4))], argTypes := #[3, 3] }), type := 26, pos := "super.go:38", after := #[{ on := 10, ground := Ground.data }, { on := 8, ground := Ground.chain }], guard := none } : Oper)) rfl (fun K hK => ?_) AllReadyH.nil
    go_simp
    refine (CHZ.out _).mono ?_; rintro e wZ ⟨vZ, rfl, ho, hb⟩; have HPn := Aside0.mk (HP.out.newR hb ho); clear HP; have HP := HPn; clear HPn; clear ho hb; obtain ⟨AZ, cZ, rfl⟩ := Kd.R_slice (HP.out.row 0 rfl)
    go_wp2_with fail
    clear hHeld
    refine hK.out _ _ ?_ (fun hHeld => ?_)
    · (try dsimp only); exact ⟨cell_in (HP.out.blk 4 rfl) 0 HE.out.1, cell_in (HP.out.blk 4 rfl) 33 HE.out.2.1, cell_in (HP.out.blk 4 rfl) 34 HE.out.2.2⟩
    clear hK K
    try simp only [Act.put, List.setIfInBounds_toArray, List.set_cons_zero, List.set_cons_succ]
    refine wpAnyH_ready (rs := [12]) (by kernel_rfl) (by simp) ?_
    refine AllReadyH.cons (o := ({ dst := (some 24), op := (Op.buildSlice 105 5 #[(0, (Operand.tmp 12)), (1, (Operand.tmp 15)), (2, (Operand.tmp 17)), (3, (Operand.tmp 20)), (4, (Operand.tmp 23))]), type := 105, pos := "super.go:38", after := #[{ on := 0, ground := Ground.data }, { on := 3, ground := Ground.data }, { on := 5, ground := Ground.data }, { on := 8, ground := Ground.data }, { on := 11, ground := Ground.data }], guard := none } : Oper)) rfl (fun K hK => ?_) AllReadyH.nil
    go_simp
    have HPn := Aside0.mk (HP.out.alloc (.cells #[.slice (some ⟨g_l, 0, none⟩) 2 2, .slice A8 N8.length c8, .slice (some ⟨g_s, 1, none⟩) 32 32, .slice A4 M4.length c4, .slice AZ Z4.length cZ] 26 (0, 0)))
    clear HP
    have HP := HPn
    clear HPn
    clear hHeld
    refine hK.out _ _ ?_ (fun hHeld => ?_)
    · (try dsimp only); exact ⟨cell_in (HP.out.blk 5 rfl) 0 HE.out.1, cell_in (HP.out.blk 5 rfl) 33 HE.out.2.1, cell_in (HP.out.blk 5 rfl) 34 HE.out.2.2⟩
    clear hK K
    try simp only [Act.put, List.setIfInBounds_toArray, List.set_cons_zero, List.set_cons_succ]
    refine wpAnyH_ready (rs := [13]) (by kernel_rfl) (by simp) ?_
    refine AllReadyH.cons (o := ({ dst := (some 25), op := (Op.call { callee := (Callee.value (Operand.func 38)), args := #[(Operand.tmp 24)], argTypes := #[105] }), type := 26, pos := "super.go:38", after := #[{ on := 12, ground := Ground.data }, { on := 11, ground := Ground.chain }], guard := none } : Oper)) rfl (fun K hK => ?_) AllReadyH.nil
    go_simp
    have HCC := Aside0.mk (c_concat8 (some ⟨wZ.heap.size, 0, none⟩) 5 [[82, 67], N8, rt, M4, Z4] _ (C_sls (e := 5) (vs := [.slice (some ⟨g_l, 0, none⟩) 2 2, .slice A8 N8.length c8, .slice (some ⟨g_s, 1, none⟩) 32 32, .slice A4 M4.length c4, .slice AZ Z4.length cZ]) (HP.out.blk 0 rfl) rfl (by simp) (fun j v d hv hd => by
      match j with
      | 0 =>
        simp at hv hd
        subst hv hd
        exact ⟨some ⟨g_l, 0, none⟩, 2, rfl, Nat.le_refl _, C_blkW (k := .u8) (l := [82, 67]) (HP.out.blk 3 rfl) (by decide)⟩
      | 1 =>
        simp at hv hd
        subst hv hd
        exact ⟨A8, c8, rfl, (Kd.R_reads' (HP.out.row 4 rfl)).2.1, (Kd.R_reads' (HP.out.row 4 rfl)).2.2⟩
      | 2 =>
        simp at hv hd
        subst hv hd
        exact ⟨some ⟨g_s, 1, none⟩, 32, by rw [HRL.out], by rw [HRL.out]; exact Nat.le_refl _, by rw [HRL.out]; exact HCR.out _ g_s (HP.out.blk 5 rfl)⟩
      | 3 =>
        simp at hv hd
        subst hv hd
        exact ⟨A4, c4, rfl, (Kd.R_reads' (HP.out.row 2 rfl)).2.1, (Kd.R_reads' (HP.out.row 2 rfl)).2.2⟩
      | 4 =>
        simp at hv hd
        subst hv hd
        exact ⟨AZ, cZ, rfl, (Kd.R_reads' (HP.out.row 1 rfl)).2.1, (Kd.R_reads' (HP.out.row 1 rfl)).2.2⟩
      | j + 5 => simp at hv)) (Nat.le_refl _) (by rw [HFI.out, (HPT.out rfl).2.2.1]; decide) (by rw [HFI.out, (HPT.out rfl).2.2.1]; decide))
    rw [HFI.out] at HCC
    refine HCC.out.mono ?_; rintro e w3 ⟨g5, l5, rfl, hta, htl, htm, hge, hg, hb⟩
    have HPn := Aside0.mk (HP.out.newB hb hg hge)
    have HL5 := Aside0.mk (And.intro hta (And.intro htl htm))
    clear HP HCC hb hg hge hta htl htm
    have HP := HPn
    clear HPn
    go_wp2_with fail
    clear hHeld
    refine hK.out _ _ ?_ (fun hHeld => ?_)
    · (try dsimp only); exact ⟨cell_in (HP.out.blk 6 rfl) 0 HE.out.1, cell_in (HP.out.blk 6 rfl) 33 HE.out.2.1, cell_in (HP.out.blk 6 rfl) 34 HE.out.2.2⟩
    clear hK K
    try simp only [Act.put, List.setIfInBounds_toArray, List.set_cons_zero, List.set_cons_succ]
    refine wpAnyH_take (i := 14) (oi := ({ dst := (some 5), op := (Op.assign (Operand.tmp 25)), type := 26, pos := "super.go:38", after := #[{ on := 13, ground := Ground.data }, { on := 13, ground := Ground.chain }, { on := 0, ground := Ground.phase }, { on := 1, ground := Ground.phase }, { on := 2, ground := Ground.phase }, { on := 3, ground := Ground.phase }, { on := 4, ground := Ground.phase }, { on := 5, ground := Ground.phase }, { on := 6, ground := Ground.phase }, { on := 7, ground := Ground.phase }, { on := 8, ground := Ground.phase }, { on := 9, ground := Ground.phase }, { on := 10, ground := Ground.phase }, { on := 11, ground := Ground.phase }, { on := 12, ground := Ground.phase }, { on := 13, ground := Ground.phase }], guard := none } : Oper)) (v := ?_) rfl (by kernel_rfl) (by kernel_rfl) (by kernel_rfl) (fun _ _ _ h => h) (Or.inl ⟨by rfl, ?_⟩) hHeld ?_
    rotate_left
    · intro w_ hSw; (try dsimp only at hSw); go_simp; try (with_reducible rfl)
    try simp only [Act.put, List.setIfInBounds_toArray, List.set_cons_zero, List.set_cons_succ]
    refine wpAnyH_done (by kernel_rfl) ?_ _
    have HPn := Aside0.mk (Hp.only1 HP.out)
    clear HP
    have HP := HPn
    clear HPn
    obtain ⟨L, hL⟩ : ∃ z, fifS s = z := ⟨_, rfl⟩
    have HT := Aside0.mk (HPT.out hL.symm)
    rw [hL] at HL5
    rw [hL]
    clear hL
    go_wp2_with fail
    have HH := HT.out
    have CS := Aside0.mk (c_hsum (some ⟨g5, 0, none⟩) l5.length L _ (C_preU (HP.out.blk 0 rfl) HL5.out.2.2 HL5.out.1 HL5.out.2.1) HL5.out.2.1 (by omega))
    clear HH
    refine CS.out.mono ?_; rintro e w4 ⟨rfl, hb⟩; have HPn := Aside0.mk (HP.out.call hb); clear HP; have HP := HPn; clear HPn; clear hb CS
    have HS := Aside0.mk (sha_lenU L)
    obtain ⟨sh, hsh⟩ : ∃ z, sha L = z := ⟨_, rfl⟩
    rw [hsh] at HS HT
    rw [hsh]
    clear hsh
    go_wp2_with (first | ((with_reducible refine gate_dst (N := 6) rfl ?_); refine ev_alloc rfl 23 rfl (.agg (u8s z32).toArray) (by kernel_rfl) ?_; intro g_i w5 hge hg hb; have HPn := Aside0.mk (HP.out.newB hb hg hge); clear HP; have HP := HPn; clear HPn; clear hge hg hb; have hcu := (fun w => run_cut_to (P := Try.prog) Try.underlying23 (by kernel_rfl) (by decide) g_i 0 14 (by decide) (by decide) w)) | ((with_reducible refine gate_store (t := 23) (p := 6) rfl ?_); refine ev_store rfl 23 (.tmp 6) (.tmp 27) rfl rfl _ rfl (cells := (u8s sh).toArray) rfl (HP.out.blk 0 rfl) (by rw [List.size_toArray, u8s_len, HS.out]; kernel_rfl) (show (u8s z32).toArray.size = (u8s sh).toArray.size from by rw [List.size_toArray, List.size_toArray, u8s_len, u8s_len, z32_len, HS.out]) (one_u8 _) ?_; intro w6 hg hgr; have HPn := Aside0.mk (HP.out.setB 0 rfl hgr hg); clear HP; have HP := HPn; clear HPn; clear hg hgr) | ((with_reducible refine gate_builtin (b := .append) (xs := #[.tmp 28, .tmp 29]) rfl ?_); (try at_builtin); have hch := C_take14 (HP.out.blk 0 rfl) HS.out; obtain ⟨wn, gn, ln, hrun, hn1, hn2, hn3, hpn⟩ := app8 HP.out 1 g5 L.length l5 (sh.take 14) rfl HL5.out.2.1 (some ⟨g_i, 0, none⟩) 14 32 hch (by have := HT.out; omega) 26; rw [HL5.out.1, HT.out.1] at hn2; rw [HT.out.2.1] at hrun hn1 hn2; have HPn := Aside0.mk hpn; have HLn := Aside0.mk (And.intro hn2 (And.intro hn1 (hn3 HL5.out.2.2))); clear HP hpn hn1 hn2 hn3 hch; refine ev_app rfl (.tmp 28) (.tmp 29) 26 26 rfl rfl rfl hrun ?_; clear hrun))
    refine bodyPost_ret (results_two_tmps rfl _ _ rfl rfl) rfl ?_
    exact ⟨gn, ln, rfl, HLn.out.1, HLn.out.2.1, HLn.out.2.2, HPn.out.blk_ge 1 rfl, HPn.out.blk 1 rfl, HPn.out.below⟩
  refine AllReadyH.cons (o := ({ dst := (some 20), op := (Op.call { callee := (Callee.value (Operand.func 39)), args := #[(Operand.tmp 19), (Operand.const (Value.int IntKind.i64 4))], argTypes := #[3, 3] }), type := 26, pos := "super.go:38", after := #[{ on := 7, ground := Ground.data }, { on := 3, ground := Ground.chain }], guard := none } : Oper)) rfl (fun K hK => ?_) AllReadyH.nil
  go_simp
  refine (CHA.out _).mono ?_; rintro e w4 ⟨v4, rfl, ho, hb⟩; have HPn := Aside0.mk (HP.out.newR hb ho); clear HP; have HP := HPn; clear HPn; clear ho hb; obtain ⟨A4, c4, rfl⟩ := Kd.R_slice (HP.out.row 0 rfl)
  go_wp2_with fail
  clear hHeld
  refine hK.out _ _ ?_ (fun hHeld => ?_)
  · (try dsimp only); exact ⟨cell_in (HP.out.blk 2 rfl) 0 HE.out.1, cell_in (HP.out.blk 2 rfl) 33 HE.out.2.1, cell_in (HP.out.blk 2 rfl) 34 HE.out.2.2⟩
  clear hK K
  try simp only [Act.put, List.setIfInBounds_toArray, List.set_cons_zero, List.set_cons_succ]
  refine wpAnyH_ready (rs := [0, 11]) (by kernel_rfl) (by simp) ?_
  refine AllReadyH.cons (o := ({ dst := (some 12), op := (Op.buildSlice 26 2 #[(0, (Operand.const (Value.int IntKind.u8 82))), (1, (Operand.const (Value.int IntKind.u8 67)))]), type := 26, pos := "super.go:38", after := #[], guard := none } : Oper)) rfl (fun K hK => ?_) ?_
  ·
    go_simp
    have HPn := Aside0.mk (HP.out.alloc (.cells (u8s [82, 67]).toArray 5 (0, 0)))
    obtain ⟨wlit, hwl⟩ : ∃ z, w4.alloc (.cells (u8s [82, 67]).toArray 5 (0, 0)) = z := ⟨_, rfl⟩
    obtain ⟨g_l, hgl⟩ : ∃ z, w4.heap.size = z := ⟨_, rfl⟩
    rw [hwl, hgl] at HPn
    rw [show w4.alloc (.cells #[.int .u8 82, .int .u8 67] 5 (0, 0)) = wlit from hwl, hgl]
    clear HP hwl hgl
    have HP := HPn
    clear HPn
    clear hHeld
    refine hK.out _ _ ?_ (fun hHeld => ?_)
    · (try dsimp only); exact ⟨cell_in (HP.out.blk 3 rfl) 0 HE.out.1, cell_in (HP.out.blk 3 rfl) 33 HE.out.2.1, cell_in (HP.out.blk 3 rfl) 34 HE.out.2.2⟩
    clear hK K
    try simp only [Act.put, List.setIfInBounds_toArray, List.set_cons_zero, List.set_cons_succ]
    refine wpAnyH_ready (rs := [11]) (by kernel_rfl) (by simp) ?_
    refine AllReadyH.cons (o := ({ dst := (some 23), op := (Op.call { callee := (Callee.value (Operand.func 39)), args := #[(Operand.tmp 22), (Operand.const (Value.int IntKind.i64 4))], argTypes := #[3, 3] }), type := 26, pos := "super.go:38", after := #[{ on := 10, ground := Ground.data }, { on := 8, ground := Ground.chain }], guard := none } : Oper)) rfl (fun K hK => ?_) AllReadyH.nil
    go_simp
    refine (CHZ.out _).mono ?_; rintro e wZ ⟨vZ, rfl, ho, hb⟩; have HPn := Aside0.mk (HP.out.newR hb ho); clear HP; have HP := HPn; clear HPn; clear ho hb; obtain ⟨AZ, cZ, rfl⟩ := Kd.R_slice (HP.out.row 0 rfl)
    go_wp2_with fail
    clear hHeld
    refine hK.out _ _ ?_ (fun hHeld => ?_)
    · (try dsimp only); exact ⟨cell_in (HP.out.blk 4 rfl) 0 HE.out.1, cell_in (HP.out.blk 4 rfl) 33 HE.out.2.1, cell_in (HP.out.blk 4 rfl) 34 HE.out.2.2⟩
    clear hK K
    try simp only [Act.put, List.setIfInBounds_toArray, List.set_cons_zero, List.set_cons_succ]
    refine wpAnyH_ready (rs := [12]) (by kernel_rfl) (by simp) ?_
    refine AllReadyH.cons (o := ({ dst := (some 24), op := (Op.buildSlice 105 5 #[(0, (Operand.tmp 12)), (1, (Operand.tmp 15)), (2, (Operand.tmp 17)), (3, (Operand.tmp 20)), (4, (Operand.tmp 23))]), type := 105, pos := "super.go:38", after := #[{ on := 0, ground := Ground.data }, { on := 3, ground := Ground.data }, { on := 5, ground := Ground.data }, { on := 8, ground := Ground.data }, { on := 11, ground := Ground.data }], guard := none } : Oper)) rfl (fun K hK => ?_) AllReadyH.nil
    go_simp
    have HPn := Aside0.mk (HP.out.alloc (.cells #[.slice (some ⟨g_l, 0, none⟩) 2 2, .slice A8 N8.length c8, .slice (some ⟨g_s, 1, none⟩) 32 32, .slice A4 M4.length c4, .slice AZ Z4.length cZ] 26 (0, 0)))
    clear HP
    have HP := HPn
    clear HPn
    clear hHeld
    refine hK.out _ _ ?_ (fun hHeld => ?_)
    · (try dsimp only); exact ⟨cell_in (HP.out.blk 5 rfl) 0 HE.out.1, cell_in (HP.out.blk 5 rfl) 33 HE.out.2.1, cell_in (HP.out.blk 5 rfl) 34 HE.out.2.2⟩
    clear hK K
    try simp only [Act.put, List.setIfInBounds_toArray, List.set_cons_zero, List.set_cons_succ]
    refine wpAnyH_ready (rs := [13]) (by kernel_rfl) (by simp) ?_
    refine AllReadyH.cons (o := ({ dst := (some 25), op := (Op.call { callee := (Callee.value (Operand.func 38)), args := #[(Operand.tmp 24)], argTypes := #[105] }), type := 26, pos := "super.go:38", after := #[{ on := 12, ground := Ground.data }, { on := 11, ground := Ground.chain }], guard := none } : Oper)) rfl (fun K hK => ?_) AllReadyH.nil
    go_simp
    have HCC := Aside0.mk (c_concat8 (some ⟨wZ.heap.size, 0, none⟩) 5 [[82, 67], N8, rt, M4, Z4] _ (C_sls (e := 5) (vs := [.slice (some ⟨g_l, 0, none⟩) 2 2, .slice A8 N8.length c8, .slice (some ⟨g_s, 1, none⟩) 32 32, .slice A4 M4.length c4, .slice AZ Z4.length cZ]) (HP.out.blk 0 rfl) rfl (by simp) (fun j v d hv hd => by
      match j with
      | 0 =>
        simp at hv hd
        subst hv hd
        exact ⟨some ⟨g_l, 0, none⟩, 2, rfl, Nat.le_refl _, C_blkW (k := .u8) (l := [82, 67]) (HP.out.blk 2 rfl) (by decide)⟩
      | 1 =>
        simp at hv hd
        subst hv hd
        exact ⟨A8, c8, rfl, (Kd.R_reads' (HP.out.row 4 rfl)).2.1, (Kd.R_reads' (HP.out.row 4 rfl)).2.2⟩
      | 2 =>
        simp at hv hd
        subst hv hd
        exact ⟨some ⟨g_s, 1, none⟩, 32, by rw [HRL.out], by rw [HRL.out]; exact Nat.le_refl _, by rw [HRL.out]; exact HCR.out _ g_s (HP.out.blk 5 rfl)⟩
      | 3 =>
        simp at hv hd
        subst hv hd
        exact ⟨A4, c4, rfl, (Kd.R_reads' (HP.out.row 3 rfl)).2.1, (Kd.R_reads' (HP.out.row 3 rfl)).2.2⟩
      | 4 =>
        simp at hv hd
        subst hv hd
        exact ⟨AZ, cZ, rfl, (Kd.R_reads' (HP.out.row 1 rfl)).2.1, (Kd.R_reads' (HP.out.row 1 rfl)).2.2⟩
      | j + 5 => simp at hv)) (Nat.le_refl _) (by rw [HFI.out, (HPT.out rfl).2.2.1]; decide) (by rw [HFI.out, (HPT.out rfl).2.2.1]; decide))
    rw [HFI.out] at HCC
    refine HCC.out.mono ?_; rintro e w3 ⟨g5, l5, rfl, hta, htl, htm, hge, hg, hb⟩
    have HPn := Aside0.mk (HP.out.newB hb hg hge)
    have HL5 := Aside0.mk (And.intro hta (And.intro htl htm))
    clear HP HCC hb hg hge hta htl htm
    have HP := HPn
    clear HPn
    go_wp2_with fail
    clear hHeld
    refine hK.out _ _ ?_ (fun hHeld => ?_)
    · (try dsimp only); exact ⟨cell_in (HP.out.blk 6 rfl) 0 HE.out.1, cell_in (HP.out.blk 6 rfl) 33 HE.out.2.1, cell_in (HP.out.blk 6 rfl) 34 HE.out.2.2⟩
    clear hK K
    try simp only [Act.put, List.setIfInBounds_toArray, List.set_cons_zero, List.set_cons_succ]
    refine wpAnyH_take (i := 14) (oi := ({ dst := (some 5), op := (Op.assign (Operand.tmp 25)), type := 26, pos := "super.go:38", after := #[{ on := 13, ground := Ground.data }, { on := 13, ground := Ground.chain }, { on := 0, ground := Ground.phase }, { on := 1, ground := Ground.phase }, { on := 2, ground := Ground.phase }, { on := 3, ground := Ground.phase }, { on := 4, ground := Ground.phase }, { on := 5, ground := Ground.phase }, { on := 6, ground := Ground.phase }, { on := 7, ground := Ground.phase }, { on := 8, ground := Ground.phase }, { on := 9, ground := Ground.phase }, { on := 10, ground := Ground.phase }, { on := 11, ground := Ground.phase }, { on := 12, ground := Ground.phase }, { on := 13, ground := Ground.phase }], guard := none } : Oper)) (v := ?_) rfl (by kernel_rfl) (by kernel_rfl) (by kernel_rfl) (fun _ _ _ h => h) (Or.inl ⟨by rfl, ?_⟩) hHeld ?_
    rotate_left
    · intro w_ hSw; (try dsimp only at hSw); go_simp; try (with_reducible rfl)
    try simp only [Act.put, List.setIfInBounds_toArray, List.set_cons_zero, List.set_cons_succ]
    refine wpAnyH_done (by kernel_rfl) ?_ _
    have HPn := Aside0.mk (Hp.only1 HP.out)
    clear HP
    have HP := HPn
    clear HPn
    obtain ⟨L, hL⟩ : ∃ z, fifS s = z := ⟨_, rfl⟩
    have HT := Aside0.mk (HPT.out hL.symm)
    rw [hL] at HL5
    rw [hL]
    clear hL
    go_wp2_with fail
    have HH := HT.out
    have CS := Aside0.mk (c_hsum (some ⟨g5, 0, none⟩) l5.length L _ (C_preU (HP.out.blk 0 rfl) HL5.out.2.2 HL5.out.1 HL5.out.2.1) HL5.out.2.1 (by omega))
    clear HH
    refine CS.out.mono ?_; rintro e w4 ⟨rfl, hb⟩; have HPn := Aside0.mk (HP.out.call hb); clear HP; have HP := HPn; clear HPn; clear hb CS
    have HS := Aside0.mk (sha_lenU L)
    obtain ⟨sh, hsh⟩ : ∃ z, sha L = z := ⟨_, rfl⟩
    rw [hsh] at HS HT
    rw [hsh]
    clear hsh
    go_wp2_with (first | ((with_reducible refine gate_dst (N := 6) rfl ?_); refine ev_alloc rfl 23 rfl (.agg (u8s z32).toArray) (by kernel_rfl) ?_; intro g_i w5 hge hg hb; have HPn := Aside0.mk (HP.out.newB hb hg hge); clear HP; have HP := HPn; clear HPn; clear hge hg hb; have hcu := (fun w => run_cut_to (P := Try.prog) Try.underlying23 (by kernel_rfl) (by decide) g_i 0 14 (by decide) (by decide) w)) | ((with_reducible refine gate_store (t := 23) (p := 6) rfl ?_); refine ev_store rfl 23 (.tmp 6) (.tmp 27) rfl rfl _ rfl (cells := (u8s sh).toArray) rfl (HP.out.blk 0 rfl) (by rw [List.size_toArray, u8s_len, HS.out]; kernel_rfl) (show (u8s z32).toArray.size = (u8s sh).toArray.size from by rw [List.size_toArray, List.size_toArray, u8s_len, u8s_len, z32_len, HS.out]) (one_u8 _) ?_; intro w6 hg hgr; have HPn := Aside0.mk (HP.out.setB 0 rfl hgr hg); clear HP; have HP := HPn; clear HPn; clear hg hgr) | ((with_reducible refine gate_builtin (b := .append) (xs := #[.tmp 28, .tmp 29]) rfl ?_); (try at_builtin); have hch := C_take14 (HP.out.blk 0 rfl) HS.out; obtain ⟨wn, gn, ln, hrun, hn1, hn2, hn3, hpn⟩ := app8 HP.out 1 g5 L.length l5 (sh.take 14) rfl HL5.out.2.1 (some ⟨g_i, 0, none⟩) 14 32 hch (by have := HT.out; omega) 26; rw [HL5.out.1, HT.out.1] at hn2; rw [HT.out.2.1] at hrun hn1 hn2; have HPn := Aside0.mk hpn; have HLn := Aside0.mk (And.intro hn2 (And.intro hn1 (hn3 HL5.out.2.2))); clear HP hpn hn1 hn2 hn3 hch; refine ev_app rfl (.tmp 28) (.tmp 29) 26 26 rfl rfl rfl hrun ?_; clear hrun))
    refine bodyPost_ret (results_two_tmps rfl _ _ rfl rfl) rfl ?_
    exact ⟨gn, ln, rfl, HLn.out.1, HLn.out.2.1, HLn.out.2.2, HPn.out.blk_ge 1 rfl, HPn.out.blk 1 rfl, HPn.out.below⟩
  refine AllReadyH.cons (o := ({ dst := (some 23), op := (Op.call { callee := (Callee.value (Operand.func 39)), args := #[(Operand.tmp 22), (Operand.const (Value.int IntKind.i64 4))], argTypes := #[3, 3] }), type := 26, pos := "super.go:38", after := #[{ on := 10, ground := Ground.data }, { on := 8, ground := Ground.chain }], guard := none } : Oper)) rfl (fun K hK => ?_) AllReadyH.nil
  go_simp
  refine (CHZ.out _).mono ?_; rintro e wZ ⟨vZ, rfl, ho, hb⟩; have HPn := Aside0.mk (HP.out.newR hb ho); clear HP; have HP := HPn; clear HPn; clear ho hb; obtain ⟨AZ, cZ, rfl⟩ := Kd.R_slice (HP.out.row 0 rfl)
  go_wp2_with fail
  clear hHeld
  refine hK.out _ _ ?_ (fun hHeld => ?_)
  · (try dsimp only); exact ⟨cell_in (HP.out.blk 3 rfl) 0 HE.out.1, cell_in (HP.out.blk 3 rfl) 33 HE.out.2.1, cell_in (HP.out.blk 3 rfl) 34 HE.out.2.2⟩
  clear hK K
  try simp only [Act.put, List.setIfInBounds_toArray, List.set_cons_zero, List.set_cons_succ]
  refine wpAnyH_ready (rs := [0]) (by kernel_rfl) (by simp) ?_
  refine AllReadyH.cons (o := ({ dst := (some 12), op := (Op.buildSlice 26 2 #[(0, (Operand.const (Value.int IntKind.u8 82))), (1, (Operand.const (Value.int IntKind.u8 67)))]), type := 26, pos := "super.go:38", after := #[], guard := none } : Oper)) rfl (fun K hK => ?_) AllReadyH.nil
  go_simp
  have HPn := Aside0.mk (HP.out.alloc (.cells (u8s [82, 67]).toArray 5 (0, 0)))
  obtain ⟨wlit, hwl⟩ : ∃ z, wZ.alloc (.cells (u8s [82, 67]).toArray 5 (0, 0)) = z := ⟨_, rfl⟩
  obtain ⟨g_l, hgl⟩ : ∃ z, wZ.heap.size = z := ⟨_, rfl⟩
  rw [hwl, hgl] at HPn
  rw [show wZ.alloc (.cells #[.int .u8 82, .int .u8 67] 5 (0, 0)) = wlit from hwl, hgl]
  clear HP hwl hgl
  have HP := HPn
  clear HPn
  clear hHeld
  refine hK.out _ _ ?_ (fun hHeld => ?_)
  · (try dsimp only); exact ⟨cell_in (HP.out.blk 4 rfl) 0 HE.out.1, cell_in (HP.out.blk 4 rfl) 33 HE.out.2.1, cell_in (HP.out.blk 4 rfl) 34 HE.out.2.2⟩
  clear hK K
  try simp only [Act.put, List.setIfInBounds_toArray, List.set_cons_zero, List.set_cons_succ]
  refine wpAnyH_ready (rs := [12]) (by kernel_rfl) (by simp) ?_
  refine AllReadyH.cons (o := ({ dst := (some 24), op := (Op.buildSlice 105 5 #[(0, (Operand.tmp 12)), (1, (Operand.tmp 15)), (2, (Operand.tmp 17)), (3, (Operand.tmp 20)), (4, (Operand.tmp 23))]), type := 105, pos := "super.go:38", after := #[{ on := 0, ground := Ground.data }, { on := 3, ground := Ground.data }, { on := 5, ground := Ground.data }, { on := 8, ground := Ground.data }, { on := 11, ground := Ground.data }], guard := none } : Oper)) rfl (fun K hK => ?_) AllReadyH.nil
  go_simp
  have HPn := Aside0.mk (HP.out.alloc (.cells #[.slice (some ⟨g_l, 0, none⟩) 2 2, .slice A8 N8.length c8, .slice (some ⟨g_s, 1, none⟩) 32 32, .slice A4 M4.length c4, .slice AZ Z4.length cZ] 26 (0, 0)))
  clear HP
  have HP := HPn
  clear HPn
  clear hHeld
  refine hK.out _ _ ?_ (fun hHeld => ?_)
  · (try dsimp only); exact ⟨cell_in (HP.out.blk 5 rfl) 0 HE.out.1, cell_in (HP.out.blk 5 rfl) 33 HE.out.2.1, cell_in (HP.out.blk 5 rfl) 34 HE.out.2.2⟩
  clear hK K
  try simp only [Act.put, List.setIfInBounds_toArray, List.set_cons_zero, List.set_cons_succ]
  refine wpAnyH_ready (rs := [13]) (by kernel_rfl) (by simp) ?_
  refine AllReadyH.cons (o := ({ dst := (some 25), op := (Op.call { callee := (Callee.value (Operand.func 38)), args := #[(Operand.tmp 24)], argTypes := #[105] }), type := 26, pos := "super.go:38", after := #[{ on := 12, ground := Ground.data }, { on := 11, ground := Ground.chain }], guard := none } : Oper)) rfl (fun K hK => ?_) AllReadyH.nil
  go_simp
  have HCC := Aside0.mk (c_concat8 (some ⟨wlit.heap.size, 0, none⟩) 5 [[82, 67], N8, rt, M4, Z4] _ (C_sls (e := 5) (vs := [.slice (some ⟨g_l, 0, none⟩) 2 2, .slice A8 N8.length c8, .slice (some ⟨g_s, 1, none⟩) 32 32, .slice A4 M4.length c4, .slice AZ Z4.length cZ]) (HP.out.blk 0 rfl) rfl (by simp) (fun j v d hv hd => by
    match j with
    | 0 =>
      simp at hv hd
      subst hv hd
      exact ⟨some ⟨g_l, 0, none⟩, 2, rfl, Nat.le_refl _, C_blkW (k := .u8) (l := [82, 67]) (HP.out.blk 1 rfl) (by decide)⟩
    | 1 =>
      simp at hv hd
      subst hv hd
      exact ⟨A8, c8, rfl, (Kd.R_reads' (HP.out.row 4 rfl)).2.1, (Kd.R_reads' (HP.out.row 4 rfl)).2.2⟩
    | 2 =>
      simp at hv hd
      subst hv hd
      exact ⟨some ⟨g_s, 1, none⟩, 32, by rw [HRL.out], by rw [HRL.out]; exact Nat.le_refl _, by rw [HRL.out]; exact HCR.out _ g_s (HP.out.blk 5 rfl)⟩
    | 3 =>
      simp at hv hd
      subst hv hd
      exact ⟨A4, c4, rfl, (Kd.R_reads' (HP.out.row 3 rfl)).2.1, (Kd.R_reads' (HP.out.row 3 rfl)).2.2⟩
    | 4 =>
      simp at hv hd
      subst hv hd
      exact ⟨AZ, cZ, rfl, (Kd.R_reads' (HP.out.row 2 rfl)).2.1, (Kd.R_reads' (HP.out.row 2 rfl)).2.2⟩
    | j + 5 => simp at hv)) (Nat.le_refl _) (by rw [HFI.out, (HPT.out rfl).2.2.1]; decide) (by rw [HFI.out, (HPT.out rfl).2.2.1]; decide))
  rw [HFI.out] at HCC
  refine HCC.out.mono ?_; rintro e w3 ⟨g5, l5, rfl, hta, htl, htm, hge, hg, hb⟩
  have HPn := Aside0.mk (HP.out.newB hb hg hge)
  have HL5 := Aside0.mk (And.intro hta (And.intro htl htm))
  clear HP HCC hb hg hge hta htl htm
  have HP := HPn
  clear HPn
  go_wp2_with fail
  clear hHeld
  refine hK.out _ _ ?_ (fun hHeld => ?_)
  · (try dsimp only); exact ⟨cell_in (HP.out.blk 6 rfl) 0 HE.out.1, cell_in (HP.out.blk 6 rfl) 33 HE.out.2.1, cell_in (HP.out.blk 6 rfl) 34 HE.out.2.2⟩
  clear hK K
  try simp only [Act.put, List.setIfInBounds_toArray, List.set_cons_zero, List.set_cons_succ]
  refine wpAnyH_take (i := 14) (oi := ({ dst := (some 5), op := (Op.assign (Operand.tmp 25)), type := 26, pos := "super.go:38", after := #[{ on := 13, ground := Ground.data }, { on := 13, ground := Ground.chain }, { on := 0, ground := Ground.phase }, { on := 1, ground := Ground.phase }, { on := 2, ground := Ground.phase }, { on := 3, ground := Ground.phase }, { on := 4, ground := Ground.phase }, { on := 5, ground := Ground.phase }, { on := 6, ground := Ground.phase }, { on := 7, ground := Ground.phase }, { on := 8, ground := Ground.phase }, { on := 9, ground := Ground.phase }, { on := 10, ground := Ground.phase }, { on := 11, ground := Ground.phase }, { on := 12, ground := Ground.phase }, { on := 13, ground := Ground.phase }], guard := none } : Oper)) (v := ?_) rfl (by kernel_rfl) (by kernel_rfl) (by kernel_rfl) (fun _ _ _ h => h) (Or.inl ⟨by rfl, ?_⟩) hHeld ?_
  rotate_left
  · intro w_ hSw; (try dsimp only at hSw); go_simp; try (with_reducible rfl)
  try simp only [Act.put, List.setIfInBounds_toArray, List.set_cons_zero, List.set_cons_succ]
  refine wpAnyH_done (by kernel_rfl) ?_ _
  have HPn := Aside0.mk (Hp.only1 HP.out)
  clear HP
  have HP := HPn
  clear HPn
  obtain ⟨L, hL⟩ : ∃ z, fifS s = z := ⟨_, rfl⟩
  have HT := Aside0.mk (HPT.out hL.symm)
  rw [hL] at HL5
  rw [hL]
  clear hL
  go_wp2_with fail
  have HH := HT.out
  have CS := Aside0.mk (c_hsum (some ⟨g5, 0, none⟩) l5.length L _ (C_preU (HP.out.blk 0 rfl) HL5.out.2.2 HL5.out.1 HL5.out.2.1) HL5.out.2.1 (by omega))
  clear HH
  refine CS.out.mono ?_; rintro e w4 ⟨rfl, hb⟩; have HPn := Aside0.mk (HP.out.call hb); clear HP; have HP := HPn; clear HPn; clear hb CS
  have HS := Aside0.mk (sha_lenU L)
  obtain ⟨sh, hsh⟩ : ∃ z, sha L = z := ⟨_, rfl⟩
  rw [hsh] at HS HT
  rw [hsh]
  clear hsh
  go_wp2_with (first | ((with_reducible refine gate_dst (N := 6) rfl ?_); refine ev_alloc rfl 23 rfl (.agg (u8s z32).toArray) (by kernel_rfl) ?_; intro g_i w5 hge hg hb; have HPn := Aside0.mk (HP.out.newB hb hg hge); clear HP; have HP := HPn; clear HPn; clear hge hg hb; have hcu := (fun w => run_cut_to (P := Try.prog) Try.underlying23 (by kernel_rfl) (by decide) g_i 0 14 (by decide) (by decide) w)) | ((with_reducible refine gate_store (t := 23) (p := 6) rfl ?_); refine ev_store rfl 23 (.tmp 6) (.tmp 27) rfl rfl _ rfl (cells := (u8s sh).toArray) rfl (HP.out.blk 0 rfl) (by rw [List.size_toArray, u8s_len, HS.out]; kernel_rfl) (show (u8s z32).toArray.size = (u8s sh).toArray.size from by rw [List.size_toArray, List.size_toArray, u8s_len, u8s_len, z32_len, HS.out]) (one_u8 _) ?_; intro w6 hg hgr; have HPn := Aside0.mk (HP.out.setB 0 rfl hgr hg); clear HP; have HP := HPn; clear HPn; clear hg hgr) | ((with_reducible refine gate_builtin (b := .append) (xs := #[.tmp 28, .tmp 29]) rfl ?_); (try at_builtin); have hch := C_take14 (HP.out.blk 0 rfl) HS.out; obtain ⟨wn, gn, ln, hrun, hn1, hn2, hn3, hpn⟩ := app8 HP.out 1 g5 L.length l5 (sh.take 14) rfl HL5.out.2.1 (some ⟨g_i, 0, none⟩) 14 32 hch (by have := HT.out; omega) 26; rw [HL5.out.1, HT.out.1] at hn2; rw [HT.out.2.1] at hrun hn1 hn2; have HPn := Aside0.mk hpn; have HLn := Aside0.mk (And.intro hn2 (And.intro hn1 (hn3 HL5.out.2.2))); clear HP hpn hn1 hn2 hn3 hch; refine ev_app rfl (.tmp 28) (.tmp 29) 26 26 rfl rfl rfl hrun ?_; clear hrun))
  refine bodyPost_ret (results_two_tmps rfl _ _ rfl rfl) rfl ?_
  exact ⟨gn, ln, rfl, HLn.out.1, HLn.out.2.1, HLn.out.2.2, HPn.out.blk_ge 1 rfl, HPn.out.blk 1 rfl, HPn.out.below⟩
end Go.Proofs.Ytgflghnbpbiakaa.Su
namespace Go.Proofs.Ytgflghnbpbiakaa.Su
open Go.Proofs.Ytgflghnbpbiakaa.H hiding C_ints cellL cellN ev_copy ev_store_mid frozC i64k run_cut_all run_cut_arr run_cut_to setL set_self
open Go.RowKit Go.Proofs.Ytgflghnbpbiakaa.XH Go.Proofs.YtgflghnbpbiakaaW.PrintWords Go.Proofs.YtgflghnbpbiakaaW.PrintLast Go.Proofs.YtgflghnbpbiakaaW.PrintMore Go.Proofs.YtgflghnbpbiakaaXe Go.Proofs.YtgflghnbpbiakaaXs
set_option linter.unusedVariables false
set_option linter.unusedSimpArgs false
attribute [local go_sem ↓] Go.wp_at_zero Go.wp_at_succ
attribute [local go_sem] valUpon
attribute [local go_sem ↓ high] bn23 bn25
theorem bysU_eq : ∀ (x y : List Int), Bytes x → Bytes y → ((x.map fun n => UInt8.ofNat n.toNat) = (y.map fun n => UInt8.ofNat n.toNat) ↔ x = y)
  | [], [], _, _ => by simp
  | a :: x, b :: y, ha, hb => by
    have ih := bysU_eq x y (fun z hz => ha z (by simp [hz])) (fun z hz => hb z (by simp [hz]))
    have h1 := ha a (by simp)
    have h2 := hb b (by simp)
    rw [List.map_cons, List.map_cons, List.cons.injEq, List.cons.injEq, ih, ← UInt8.toNat_inj]
    simp only [UInt8.toNat_ofNat']
    constructor
    · rintro ⟨h3, h4⟩; exact ⟨by omega, h4⟩
    · rintro ⟨h3, h4⟩; exact ⟨by omega, h4⟩
  | [], _ :: _, _, _ => by simp
  | _ :: _, [], _, _ => by simp
theorem eq_beq (x y : List Int) (hx : Bytes x) (hy : Bytes y) : ((strOfNums x).toList == (strOfNums y).toList) = decide (x = y) := by
  rw [Lib.strOfNums_toList, Lib.strOfNums_toList, Bool.eq_iff_iff, beq_iff_eq, decide_eq_true_eq]
  exact bysU_eq x y hx hy
theorem eq_fB (x y : List Int) (hx : Bytes x) (hy : Bytes y) : bytes_Equal.f x y = some (decide (x = y)) := by
  unfold bytes_Equal.f
  rw [eq_beq x y hx hy]
theorem sha_byteB (M : List Int) : Bytes (sha M) := by
  intro x hx
  unfold sha outI at hx
  rcases List.mem_append.1 hx with h | h
  · obtain ⟨j, _, rfl⟩ := List.mem_map.1 h
    exact ⟨Int.emod_nonneg _ (by decide), Int.emod_lt_of_pos _ (by decide)⟩
  · rw [List.mem_replicate] at h; omega
theorem num48 (l : List Int) (hb : Bytes l) (j : Nat) (hj : j ≤ 7) (hjl : j ≤ l.length) (h7 : j = 7 → rd l 0 = 0) : 0 ≤ numI (l.take j) ∧ numI (l.take j) < 281474976710656 := by
  have hbj : Bytes (l.take j) := fun x hx => hb x (List.mem_of_mem_take hx)
  have h1 := num_bound _ hbj
  refine ⟨h1.1, ?_⟩
  by_cases h8 : j = 7
  · have h9 := h7 h8
    match l, hb, hjl, h9 with
    | [], _, hjl, _ => simp at hjl; omega
    | c :: l', hb, hjl, h9 =>
      subst h8
      simp only [Go.Proofs.YtgflghnbpbiakaaW.PrintWords.rd, List.getD] at h9
      simp at h9
      subst h9
      rw [List.take_succ_cons, num_cons, Int.zero_mul, Int.zero_add]
      have := (num_bound (l'.take 6) (fun x hx => hb x (List.mem_cons_of_mem _ (List.mem_of_mem_take hx)))).2
      refine Int.lt_of_lt_of_le this ?_
      rw [List.length_take]
      have hle : min 6 l'.length = 6 := by simp at hjl; omega
      rw [hle]
      decide
  · have h10 : (l.take j).length ≤ 6 := by rw [List.length_take]; omega
    have h11 : (256 : Int) ^ (l.take j).length ≤ 256 ^ 6 := by
      have := Nat.pow_le_pow_right (n := 256) (by decide) h10
      have h12 : ((256 ^ (l.take j).length : Nat) : Int) ≤ ((256 ^ 6 : Nat) : Int) := by omega
      simpa [Int.natCast_pow] using h12
    have h13 : (256 : Int) ^ 6 = 281474976710656 := by decide
    omega
theorem rdB {l : List Int} (h : Bytes l) (q : Int) : 0 ≤ rd l q ∧ rd l q < 256 := by
  unfold Go.Proofs.YtgflghnbpbiakaaW.PrintWords.rd
  by_cases hi : q.toNat < l.length
  · rw [List.getD_eq_getElem?_getD, List.getElem?_eq_getElem hi]; exact h _ (List.getElem_mem hi)
  · rw [List.getD_eq_getElem?_getD, List.getElem?_eq_none (by omega)]; decide
set_option maxHeartbeats 8000000 in
set_option maxRecDepth 100000 in
theorem c_spack0 (s : SP) (hl : s.root.length = 32) (hk : chk s = false) (w : World) :
    Calls Try.prog 9 #[.agg (c25 s).toArray] w fun e w' => e = .returned (.tuple #[.slice none 0 0, .int .i64 2]) ∧ Below w.heap.size w w' := by
  have CK := Aside0.mk (fun w => c_check s hl w)
  rw [show chkE s = 2 from by unfold chkE; rw [hk]; rfl] at CK
  have HLC := Aside0.mk (c25_len s hl)
  obtain ⟨cs, hcs⟩ : ∃ z, c25 s = z := ⟨_, rfl⟩
  rw [hcs] at CK HLC ⊢
  clear hcs hk hl
  have HP := Aside0.mk (Hp.start w)
  go_enter Try.func9, Try.ntmps9
  go_wp2_with (first | ((with_reducible refine gate_dst (N := 1) rfl ?_); refine ev_box rfl 25 (.tmp 0) rfl (cs.toArray) rfl ?_; intro g_s wa hge hg hb; have HPn := Aside0.mk (HP.out.newB hb hg hge); clear HP; have HP := HPn; clear HPn; clear hge hg hb) | ((with_reducible refine gate_dst (N := 7) rfl ?_); refine ev_load rfl 25 (.tmp 1) rfl g_s rfl (HP.out.blk 0 rfl) Try.underlying25 rfl (by rw [List.size_toArray, HLC.out]; kernel_rfl) ?_))
  refine (CK.out _).mono ?_; rintro e w1 ⟨rfl, hb⟩; have HPn := Aside0.mk (HP.out.call hb); clear HP; have HP := HPn; clear HPn; clear hb
  go_wp2_with fail
  refine bodyPost_ret (results_two_tmps rfl _ _ rfl rfl) rfl ?_
  exact ⟨rfl, HP.out.below⟩
set_option maxHeartbeats 8000000 in
set_option maxRecDepth 100000 in
theorem c_number {w0 w : World} {Rs : List Res} (HP0 : Hp w0 w Rs) (i g : Nat) (A : Option Addr) (l : List Int) (c : Nat) (tail : List Value) (T : TypeId) (hi : Rs[i]? = some (.blk g (.cells (.slice A l.length c :: tail).toArray T (0, 0)))) (k : Nat) (kz : Int) (hkz : kz = (k : Int)) (hk : k ≤ l.length) (hk8 : k ≤ 8) (h7 : k = 8 → rd l 0 = 0) (hB : Bytes l) (hc : l.length ≤ c) (hm : l.length ≤ 1000000) (hC : Kd.C (Kd.int .u8) w0 A l.length l) :
    Calls Try.prog 44 #[.pointer (some ⟨g, 0, none⟩), .int .i64 kz] w fun e w' => e = .returned (.int .i64 (numI (l.take k))) ∧ ∃ A' m, l.drop k = m ∧ m.length ≤ c - k ∧ Kd.C (Kd.int .u8) w0 A' m.length m ∧ Hp w0 w' (Rs.set i (.blk g (.cells (.slice A' m.length (c - k) :: tail).toArray T (0, 0)))) := by
  have HP := Aside0.mk HP0
  have HC := Aside0.mk hC
  have HI := Aside0.mk hi
  have HB := Aside0.mk hB
  have HKK := Aside0.mk (And.intro hk (And.intro hk8 h7))
  have hcut1 : ∀ w : World, (Instr.slice 26 (.slice A l.length c) none (some (.int .i64 kz)) none).run Try.prog w = .ok (.slice A k c) w := fun w => D.to8 A c l k hk hc kz hkz w
  obtain ⟨A', m, hm1, hml, hmc, hcut2, hC2⟩ := D.from8 A c l k hk hc kz hkz
  have HN := Aside0.mk (And.intro hm1 (And.intro hmc (hC2 w0 hC)))
  have q1 : 0 ≤ kz := by omega
  have q2 : kz ≤ (l.length : Int) := by omega
  have HKZ := Aside0.mk hkz
  have hc0 := blk_cell (HP.out.blk i HI.out) 0
  clear hkz hk hk8 h7 hB hm hC hi HP0 hm1 hml hmc hC2 hc
  go_enter Try.func44, Try.ntmps44
  go_wp2
  clear hc0 hcut1 q1 q2
  go_loopg [5, 7, 15] k (fun kq v5 v7 v15 w' => ∃ (j : Nat) (x s : Int), v5 = .int .i64 s ∧ v15 = .int .i64 x ∧ Aside0 (x = (j : Int)) ∧ Aside0 (kq + j = k) ∧ Aside0 (s = numI (l.take j)) ∧ Aside0 (Hp w0 w' Rs))
  case atStart => exact ⟨0, 0, 0, rfl, rfl, ⟨rfl⟩, ⟨rfl⟩, ⟨rfl⟩, HP⟩
  clear HP
  obtain ⟨j, x, s, rfl, rfl, HX, HK2, HS, HP⟩ := hrel
  have hx := HX.out
  have hkk := HKK.out
  by_cases c1 : j < k
  · have d1 : decide (x < (k : Int)) = true := decide_eq_true (by omega)
    have p0 : 0 ≤ x := by omega
    have q0 : x < (k : Int) := by omega
    have ex := i64k (x := x + 1) rfl (by omega)
    obtain ⟨ad4, e4, hcx⟩ := Kd.at_int (Kd.C_below HC.out HP.out.below) x p0 (by omega)
    subst e4
    have hsr := num48 l HB.out j (by omega) (by omega) (fun h => hkk.2.2 (by omega))
    have htk := take_num l j (by omega)
    have hdb := rdB HB.out (j : Int)
    rw [← hx] at htk hdb
    obtain ⟨d, hd⟩ : ∃ z, rd l x = z := ⟨_, rfl⟩
    rw [hd] at hcx htk hdb
    rw [← HS.out] at hsr
    obtain ⟨s256, h256⟩ : ∃ z, s * 256 = z := ⟨_, rfl⟩
    obtain ⟨s2, h2⟩ : ∃ z, s256 + d = z := ⟨_, rfl⟩
    have g1 := i64k h256 (by omega)
    have g2 : shl .i64 s 8 = s256 := by unfold shl; exact g1
    have gw : wrap64 s256 = s256 := by unfold wrap64; omega
    have ed := i64k (x := d) rfl (by omega)
    have g4 : Go.bits .or .i64 s256 d = s2 := by
      rw [bits_join .i64 63 (by decide) (fun n a b => by rw [IntKind.wrap_i64]; omega) 8 s256 d (by omega) (by omega) (by omega) (by omega) (by omega) (by omega)]; exact h2
    have g5 : Go.bits .or .i64 (wrap64 s256) d = s2 := by rw [gw]; exact g4
    clear gw
    have HS2 := Aside0.mk (show s2 = numI (l.take (j + 1)) by rw [htk, num_snoc, ← HS.out]; omega)
    have HC1 := Aside0.mk c1
    clear hx hd hdb hsr htk h2 c1 hkk
    go_wp2
    go_roundg (gk - 1)
    case measure => have := HK2.out; have := HC1.out; omega
    case rel => exact ⟨j + 1, x + 1, s2, rfl, by simp, ⟨by have := HX.out; omega⟩, ⟨by have := HK2.out; have := HC1.out; omega⟩, HS2, HP⟩
  · have d1 : decide (x < (k : Int)) = false := decide_eq_false (by omega)
    obtain rfl : j = k := by have := HK2.out; omega
    have hc0 := blk_cell (HP.out.blk i HI.out) 0
    have hf0 := blk_frozen (HP.out.blk i HI.out) 0
    clear hx c1 hkk
    go_wp2
    have HPn := HP.out.setCell i HI.out 0 (.slice A' m.length (c - j))
    go_ret
    exact ⟨by (try rw [HS.out]); rfl, A', m, HN.out.1, HN.out.2.1, HN.out.2.2, HPn⟩
end Go.Proofs.Ytgflghnbpbiakaa.Su
