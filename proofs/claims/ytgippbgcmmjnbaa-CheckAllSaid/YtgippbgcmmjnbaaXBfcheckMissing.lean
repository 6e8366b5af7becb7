-- Printed by xprint.py (a program of this work, over the kit's print.py). Lean checks it.
import Derived.Test.YtgippbgcmmjnbaaXB0
import Derived.Test.YtgippbgcmmjnbaaXB1
import Derived.Test.YtgippbgcmmjnbaaXBL
import Derived.Test.YtgippbgcmmjnbaaXBfcheckMay
import Derived.Test.YtgippbgcmmjnbaaXBfcheckPlaces
namespace Go.Proofs.Ytgippbgcmmjnbaa.XB
open Go.RowKit Go.Proofs.YtgippbgcmmjnbaaW.PrintWords Go.Proofs.YtgippbgcmmjnbaaW.PrintLast Go.Proofs.YtgippbgcmmjnbaaW.PrintMore
attribute [local go_sem] max2_int min2_int max_two min_two max_three min_three max_four min_four   -- for this text's walks alone
set_option linter.unusedVariables false
set_option linter.unusedSimpArgs false

attribute [local go_sem high] eqA27
attribute [local go_sem ↓ high] ld27
attribute [local go_sem high] LD27.new
/-! ### check_Missing: function 15 -/
theorem check_Missing.row {w : World} {A : Option Addr} {n : Nat} {xs : List S27} (h : Kd.C k27 w A n xs) (i : Int) (h0 : 0 ≤ i) (h1 : i < n) : ∃ ad rest, A = some ad ∧ rest.length = 32 ∧ (∀ v ∈ rest, v.oneCell' = true) ∧ w.cell? (ad.add (i.toNat * 33)) = some (.int .i64 (rd_T27 xs i).f0) ∧ (LD27 (.pointer (some (ad.add (i.toNat * 33))))).run Try.prog w = .ok (.agg (.int .i64 (rd_T27 xs i).f0 :: rest).toArray) w := by
  obtain ⟨ad, c, e, _, hK, hc⟩ := Kd.C_get h z27 i h0 h1
  have ho := k27.K_one hK
  have hl : c.length = 33 := k27.K_len hK
  have hx : ∃ rest, c = .int .i64 (rd_T27 xs i).f0 :: rest := ⟨_, k27_open hK⟩
  obtain ⟨rest, rfl⟩ := hx
  have hc' : ∀ j u, (Value.int .i64 (rd_T27 xs i).f0 :: rest)[j]? = some u → w.cell? ((ad.add (i.toNat * 33)).add j) = some u := fun j u hu => by
    have := hc j u hu
    rwa [show ad.add (i.toNat * k27.sz + j) = (ad.add (i.toNat * 33)).add j from (add_add _ _ _).symm] at this
  refine ⟨ad, rest, e, by simpa using hl, fun v hv => ho v (List.mem_cons_of_mem _ hv), hc 0 _ rfl, ?_⟩
  exact Go.Proofs.YtgippbgcmmjnbaaXa.ldrow hc' Try.underlying27 (by rfl) (by rw [show (Try.prog.info? 27).map (·.size) = some 33 by kernel_rfl, hl])
def check_Missing.hasB (l : List S27) (a : Int) : Bool := l.any fun m => m.f0 == a
set_option maxHeartbeats 8000000 in
set_option maxRecDepth 100000 in
theorem check_Missing.c11 (c0 a : Int) (rest : List Value) (g : Nat) (w : World) (hg : w.cell? ⟨g, 0, none⟩ = some (.int .i64 a)) :
    Calls Try.prog 33 #[.agg (.int .i64 c0 :: rest).toArray, .pointer (some ⟨g, 0, none⟩)] w fun e w' => e = .returned (.bool (c0 == a)) ∧ Below w.heap.size w w' := by
  have hlt := World.block_lt_of_cell? w _ hg
  have HB := Aside0.mk (below_alloc (Below.refl w.heap.size w) (.cells (Value.int .i64 c0 :: rest).toArray 27))
  go_enter Try.func33, Try.ntmps33
  go_wp2
  go_ret
  exact ⟨rfl, HB.out⟩
/-- the first place from i on at which there is one, or the length -/
def check_Missing.ixF (l : List S27) (a : Int) : Int := match l.findIdx? (fun m => m.f0 == a) with | some j => (j : Int) | none => -1
theorem check_Missing.ix_ge (l : List S27) (a : Int) : decide (check_Missing.ixF l a ≥ 0) = check_Missing.hasB l a := by
  unfold check_Missing.ixF check_Missing.hasB
  cases h : l.findIdx? (fun m => m.f0 == a) with
  | none =>
    rw [List.findIdx?_eq_none_iff] at h
    have : l.any (fun m => m.f0 == a) = false := by rw [List.any_eq_false]; intro x hx; simp [h x hx]
    rw [this]; decide
  | some j =>
    have h2 := List.findIdx?_eq_some_iff_getElem.1 h
    obtain ⟨hj, hp, _⟩ := h2
    have : l.any (fun m => m.f0 == a) = true := List.any_eq_true.2 ⟨_, List.getElem_mem hj, hp⟩
    rw [this]; simp
theorem check_Missing.ix_at {l : List S27} {a : Int} {n : Nat} (hn : n < l.length) (h : (rd_T27 l n).f0 == a) (hb : ∀ j : Nat, j < n → ((rd_T27 l j).f0 == a) = false) : check_Missing.ixF l a = n := by
  unfold check_Missing.ixF
  have : l.findIdx? (fun m => m.f0 == a) = some n := by
    rw [List.findIdx?_eq_some_iff_getElem]
    refine ⟨hn, ?_, ?_⟩
    · have : rd_T27 l n = l[n] := by unfold rd_T27; simp [hn]
      rw [this] at h; exact h
    · intro j hj
      have h1 := hb j hj
      have : rd_T27 l j = l[j] := by unfold rd_T27; simp [Nat.lt_trans hj hn]
      rw [this] at h1; simp [h1]
  rw [this]
theorem check_Missing.ix_none {l : List S27} {a : Int} (hb : ∀ j : Nat, j < l.length → ((rd_T27 l j).f0 == a) = false) : check_Missing.ixF l a = -1 := by
  unfold check_Missing.ixF
  have : l.findIdx? (fun m => m.f0 == a) = none := by
    rw [List.findIdx?_eq_none_iff]
    intro x hx
    obtain ⟨j, hj, rfl⟩ := List.getElem_of_mem hx
    have h1 := hb j hj
    have : rd_T27 l j = l[j] := by unfold rd_T27; simp [hj]
    rw [this] at h1; exact h1
  rw [this]
set_option maxHeartbeats 8000000 in
set_option maxRecDepth 100000 in
theorem check_Missing.ix (A0 : Option Addr) (c : Nat) (l0 : List S27) (a : Int) (g : Nat) (w : World) (hr0 : Kd.C k27 w A0 l0.length l0) (hg : w.cell? ⟨g, 0, none⟩ = some (.int .i64 a)) :
    Calls Try.prog 40 #[.slice A0 l0.length c, .func (.func 33) #[] #[.pointer (some ⟨g, 0, none⟩)]] w fun e w' => e = .returned (.int .i64 (check_Missing.ixF l0 a)) ∧ Below w.heap.size w w' := by
  have HR0 := Aside0.mk hr0
  have hlm : l0.length ≤ 9223372036854775807 := hr0.2.1
  have HG := Aside0.mk hg
  clear hr0 hg
  go_enter Try.func40, Try.ntmps40
  go_wp2
  go_loopg [8] l0.length (fun kq v8 w' => ∃ (n : Nat), v8 = .int .i64 n ∧ n ≤ l0.length ∧ Aside0 (kq + n = l0.length) ∧ Aside0 (∀ j : Nat, j < n → ((rd_T27 l0 j).f0 == a) = false) ∧ Aside0 (Below w.heap.size w w'))
  case atStart => exact ⟨0, rfl, by omega, ⟨by omega⟩, ⟨fun j hj => absurd hj (by omega)⟩, ⟨Below.refl _ _⟩⟩
  case round =>
    obtain ⟨n, rfl, h1, HK, HA, HB⟩ := hrel
    by_cases c1 : n < l0.length
    · have c1i : (n : Int) < (l0.length : Int) := by omega
      have h0 : 0 ≤ (n : Int) := by omega
      obtain ⟨ad, rest, rfl, hl, ho, hx0, hld⟩ := check_Missing.row (Kd.C_below HR0.out HB.out) (n : Int) h0 c1i
      rw [Int.toNat_natCast] at hld
      have HL := Aside0.mk hl
      clear hl ho hx0
      cases c2 : ((rd_T27 l0 n).f0 == a) with
      | true =>
        go_wp2_with (go_at_call 33; refine (check_Missing.c11 (rd_T27 l0 n).f0 a rest g _ (pw_cell_below HB.out HG.out)).mono ?_; rintro e w' ⟨rfl, hb⟩; rw [c2]; have HB2 := Aside0.mk (below_step HB.out hb); clear hb)
        go_ret
        exact ⟨by rw [check_Missing.ix_at c1 c2 HA.out]; rfl, HB2.out⟩
      | false =>
        go_wp2_with (go_at_call 33; refine (check_Missing.c11 (rd_T27 l0 n).f0 a rest g _ (pw_cell_below HB.out HG.out)).mono ?_; rintro e w' ⟨rfl, hb⟩; rw [c2]; have HB2 := Aside0.mk (below_step HB.out hb); clear hb)
        go_roundg (gk - 1)
        case measure => have := HK.out; omega
        case rel => exact ⟨n + 1, by simp, by omega, ⟨by have := HK.out; omega⟩, ⟨fun j hj => by rcases Nat.lt_or_ge j n with h | h; exact HA.out j h; rw [show j = n by omega]; exact c2⟩, HB2⟩
    · have hd : decide (n < l0.length) = false := decide_eq_false c1
      go_wp2
      go_ret
      exact ⟨by rw [check_Missing.ix_none (fun j hj => HA.out j (by omega))]; rfl, HB.out⟩
set_option maxHeartbeats 8000000 in
set_option maxRecDepth 100000 in
theorem check_Missing.cf (A0 : Option Addr) (c : Nat) (l0 : List S27) (a : Int) (g : Nat) (w : World) (hr0 : Kd.C k27 w A0 l0.length l0) (hg : w.cell? ⟨g, 0, none⟩ = some (.int .i64 a)) :
    Calls Try.prog 32 #[.slice A0 l0.length c, .func (.func 33) #[] #[.pointer (some ⟨g, 0, none⟩)]] w fun e w' => e = .returned (.bool (check_Missing.hasB l0 a)) ∧ Below w.heap.size w w' := by
  have hd := check_Missing.ix_ge l0 a
  go_enter Try.func32, Try.ntmps32
  go_wp2_with (go_at_call 40; refine (check_Missing.ix A0 c l0 a g _ hr0 hg).mono ?_; rintro e w' ⟨rfl, hb⟩; have HB2 := Aside0.mk hb; clear hb)
  go_ret
  exact ⟨by rw [← hd]; rfl, HB2.out⟩
set_option maxHeartbeats 8000000 in
set_option maxRecDepth 100000 in
theorem check_Missing.c1 (A0 : Option Addr) (c : Nat) (l0 : List S27) (a : Int) (g : Nat) (w : World) (hr0 : Kd.C k27 w A0 l0.length l0) (hg : w.cell? ⟨g, 0, none⟩ = some (.slice A0 l0.length c)) :
    Calls Try.prog 31 #[.int .i64 a, .pointer (some ⟨g, 0, none⟩)] w fun e w' => e = .returned (.bool (check_Missing.hasB l0 a)) ∧ Below w.heap.size w w' := by
  have hlt := World.block_lt_of_cell? w _ hg
  have HB := Aside0.mk (below_alloc (Below.refl w.heap.size w) (.cells #[Value.int .i64 a] 3))
  have HR0 := Aside0.mk hr0
  clear hr0
  go_enter Try.func31, Try.ntmps31
  go_wp2_with (go_at_call 32; refine (check_Missing.cf A0 c l0 a _ _ (Kd.C_below HR0.out HB.out) (by simp)).mono ?_; rintro e w' ⟨rfl, hb⟩; have HB2 := Aside0.mk (below_step HB.out hb); clear hb)
  go_ret
  exact ⟨rfl, HB2.out⟩
/-- the first place at which there is none missing -/
def check_Missing.ixP (l : List S27) (p : List Int) : Int := match p.findIdx? (fun a => check_Missing.hasB l a) with | some j => (j : Int) | none => -1
theorem check_Missing.ixP_at {l : List S27} {p : List Int} {n : Nat} (hn : n < p.length) (h : check_Missing.hasB l (rd p n) = true) (hb : ∀ j : Nat, j < n → check_Missing.hasB l (rd p j) = false) : check_Missing.ixP l p = n := by
  unfold check_Missing.ixP
  have : p.findIdx? (fun a => check_Missing.hasB l a) = some n := by
    rw [List.findIdx?_eq_some_iff_getElem]
    refine ⟨hn, ?_, ?_⟩
    · have : rd p n = p[n] := by unfold rd; simp [hn]
      rw [this] at h; exact h
    · intro j hj
      have h1 := hb j hj
      have : rd p j = p[j] := by unfold rd; simp [Nat.lt_trans hj hn]
      rw [this] at h1; simp [h1]
  rw [this]
theorem check_Missing.ixP_none {l : List S27} {p : List Int} (hb : ∀ j : Nat, j < p.length → check_Missing.hasB l (rd p j) = false) : check_Missing.ixP l p = -1 := by
  unfold check_Missing.ixP
  have : p.findIdx? (fun a => check_Missing.hasB l a) = none := by
    rw [List.findIdx?_eq_none_iff]
    intro x hx
    obtain ⟨j, hj, rfl⟩ := List.getElem_of_mem hx
    have h1 := hb j hj
    have : rd p j = p[j] := by unfold rd; simp [hj]
    rw [this] at h1; exact h1
  rw [this]
set_option maxHeartbeats 8000000 in
set_option maxRecDepth 100000 in
theorem check_Missing.ip (A0 A1 : Option Addr) (c c1 : Nat) (l0 : List S27) (p : List Int) (g : Nat) (w : World) (hr0 : Kd.C k27 w A0 l0.length l0) (hr1 : Kd.C (Kd.int .i64) w A1 p.length p) (hg : w.cell? ⟨g, 0, none⟩ = some (.slice A0 l0.length c)) :
    Calls Try.prog 39 #[.slice A1 p.length c1, .func (.func 31) #[] #[.pointer (some ⟨g, 0, none⟩)]] w fun e w' => e = .returned (.int .i64 (check_Missing.ixP l0 p)) ∧ Below w.heap.size w w' := by
  have HR0 := Aside0.mk hr0
  have HR1 := Aside0.mk hr1
  have hlm : p.length ≤ 9223372036854775807 := hr1.2.1
  have HG := Aside0.mk hg
  clear hr0 hr1 hg
  go_enter Try.func39, Try.ntmps39
  go_wp2
  go_loopg [8] p.length (fun kq v8 w' => ∃ (n : Nat), v8 = .int .i64 n ∧ n ≤ p.length ∧ Aside0 (kq + n = p.length) ∧ Aside0 (∀ j : Nat, j < n → check_Missing.hasB l0 (rd p j) = false) ∧ Aside0 (Below w.heap.size w w'))
  case atStart => exact ⟨0, rfl, by omega, ⟨by omega⟩, ⟨fun j hj => absurd hj (by omega)⟩, ⟨Below.refl _ _⟩⟩
  case round =>
    obtain ⟨n, rfl, h1, HK, HA, HB⟩ := hrel
    by_cases c1 : n < p.length
    · have c1i : (n : Int) < (p.length : Int) := by omega
      have h0 : 0 ≤ (n : Int) := by omega
      obtain ⟨ad, rfl, hx0⟩ := Kd.at_int (Kd.C_below HR1.out HB.out) (n : Int) h0 c1i
      rw [Int.toNat_natCast] at hx0
      cases c2 : (check_Missing.hasB l0 (rd p n)) with
      | true =>
        go_wp2_with (go_at_call 31; refine (check_Missing.c1 A0 c l0 (rd p n) g _ (Kd.C_below HR0.out HB.out) (pw_cell_below HB.out HG.out)).mono ?_; rintro e w' ⟨rfl, hb⟩; rw [c2]; have HB2 := Aside0.mk (below_step HB.out hb); clear hb)
        go_ret
        exact ⟨by rw [check_Missing.ixP_at c1 c2 HA.out]; rfl, HB2.out⟩
      | false =>
        go_wp2_with (go_at_call 31; refine (check_Missing.c1 A0 c l0 (rd p n) g _ (Kd.C_below HR0.out HB.out) (pw_cell_below HB.out HG.out)).mono ?_; rintro e w' ⟨rfl, hb⟩; rw [c2]; have HB2 := Aside0.mk (below_step HB.out hb); clear hb)
        go_roundg (gk - 1)
        case measure => have := HK.out; omega
        case rel => exact ⟨n + 1, by simp, by omega, ⟨by have := HK.out; omega⟩, ⟨fun j hj => by rcases Nat.lt_or_ge j n with h | h; exact HA.out j h; rw [show j = n by omega]; exact c2⟩, HB2⟩
    · have hd : decide (n < p.length) = false := decide_eq_false c1
      go_wp2
      go_ret
      exact ⟨by rw [check_Missing.ixP_none (fun j hj => HA.out j (by omega))]; rfl, HB.out⟩
def check_Missing.keep (l : List S27) (p : List Int) : List Int := p.filter fun a => !check_Missing.hasB l a
theorem check_Missing.keep_snoc (l : List S27) (p : List Int) (n : Nat) (hn : n < p.length) : check_Missing.keep l (p.take (n + 1)) = check_Missing.keep l (p.take n) ++ if check_Missing.hasB l (rd p n) then [] else [rd p n] := by
  have e : rd p n = p[n] := by unfold rd; simp [hn]
  unfold check_Missing.keep
  rw [List.take_succ_eq_append_getElem hn, List.filter_append, e]
  cases h : check_Missing.hasB l p[n] <;> simp [h]
theorem check_Missing.keep_none {l : List S27} {p : List Int} {n : Nat} (hb : ∀ j : Nat, j < n → check_Missing.hasB l (rd p j) = false) (hn : n ≤ p.length) : check_Missing.keep l (p.take n) = p.take n := by
  unfold check_Missing.keep
  rw [List.filter_eq_self]
  intro x hx
  obtain ⟨j, hj, rfl⟩ := List.getElem_of_mem hx
  rw [List.length_take] at hj
  have h1 := hb j (by omega)
  have : rd p j = p[j]'(by omega) := by unfold rd; simp [show j < p.length by omega]
  rw [this] at h1
  simp [h1]
theorem check_Missing.ixP_cases (l : List S27) (p : List Int) : (check_Missing.ixP l p = -1 ∧ check_Missing.keep l p = p) ∨ ∃ n : Nat, check_Missing.ixP l p = n ∧ n < p.length ∧ check_Missing.keep l (p.take (n + 1)) = p.take n := by
  unfold check_Missing.ixP
  cases h : p.findIdx? (fun a => check_Missing.hasB l a) with
  | none =>
    rw [List.findIdx?_eq_none_iff] at h
    exact .inl ⟨rfl, by unfold check_Missing.keep; rw [List.filter_eq_self]; intro x hx; simp [h x hx]⟩
  | some j =>
    obtain ⟨hj, hp, hb⟩ := List.findIdx?_eq_some_iff_getElem.1 h
    refine .inr ⟨j, rfl, hj, ?_⟩
    have e : rd p j = p[j] := by unfold rd; simp [hj]
    rw [check_Missing.keep_snoc l p j hj, e, if_pos hp, List.append_nil, check_Missing.keep_none ?_ (by omega)]
    intro i hi
    have := hb i hi
    have e : rd p i = p[i] := by unfold rd; simp [Nat.lt_trans hi hj]
    rw [e]; simpa using this
theorem check_Missing.take_set {s : List Int} {i : Nat} {x : Int} {m : List Int} (hi : i < s.length) (h : m = s.take i ++ [x]) : (s.set i x).take (i + 1) = m := by
  rw [h, List.take_succ_eq_append_getElem (by simpa using hi)]
  simp [List.take_set_of_le]
theorem check_Missing.drop_set {s p : List Int} {i j : Nat} {x : Int} (hi : i < j) (h : s.drop j = p.drop j) : (s.set i x).drop (j + 1) = p.drop (j + 1) := by
  rw [List.drop_set_of_lt (by omega)]
  have := congrArg (List.drop 1) h
  simpa [List.drop_drop, Nat.add_comm] using this
theorem check_Missing.info : (Try.prog.info? 3).map (fun i => (i.zero, i.size, i.bytes)) = some (some (.int .i64 0), 1, 8) := by kernel_rfl
set_option maxHeartbeats 8000000 in
set_option maxRecDepth 100000 in
theorem check_Missing.df (A0 : Option Addr) (c : Nat) (l0 : List S27) (p : List Int) (g : Nat) (v : Value) (w0 w : World) (hB : Below w0.heap.size w0 w) (ho : Kd.R (Kd.int .i64) 3 w w0.heap.size (fun _ => True) v p) (hr0 : Kd.C k27 w0 A0 l0.length l0) (hg : w0.cell? ⟨g, 0, none⟩ = some (.slice A0 l0.length c)) :
    Calls Try.prog 30 #[v, .func (.func 31) #[] #[.pointer (some ⟨g, 0, none⟩)]] w fun e w' => ∃ v0_ : Value, e = .returned v0_ ∧ Kd.R (Kd.int .i64) 3 w' w0.heap.size (fun _ => True) v0_ (check_Missing.keep l0 p) ∧ Below w0.heap.size w0 w' := by
  obtain ⟨A1, c1, rfl, hlc, hC⟩ := Kd.R_reads ho
  have HO := Aside0.mk ho
  have HB := Aside0.mk hB
  have HR0 := Aside0.mk hr0
  have HR1 := Aside0.mk hC
  have hlm : p.length ≤ 9223372036854775807 := hC.2.1
  have HG := Aside0.mk hg
  have HLC := Aside0.mk hlc
  have hcm : c1 ≤ 9223372036854775807 := by
    rcases HO.out.2 with ⟨inner, hown, _⟩
    rcases hown.2 with ⟨hv, _⟩ | ⟨g, cap, cur, hv, _, _, _, h5, _⟩
    · injection hv with e1 e2 e3; omega
    · injection hv with e1 e2 e3
      subst e3
      simpa [maxLen] using h5
  clear ho hB hr0 hg hC hlc
  rcases check_Missing.ixP_cases l0 p with ⟨hx, hk⟩ | ⟨n, hx, hn, hk⟩
  · have HK := Aside0.mk hk
    clear hk
    go_enter Try.func30, Try.ntmps30
    go_wp2_with (go_at_call 39; refine (check_Missing.ip A0 A1 c c1 l0 p g _ (Kd.C_below HR0.out HB.out) HR1.out (pw_cell_below HB.out HG.out)).mono ?_; rintro e w' ⟨rfl, hb⟩; rw [hx]; have HB2 := Aside0.mk (below_then HB.out HB.out.size hb); have HO2 := Aside0.mk (Kd.R_below HO.out hb); clear hb)
    go_ret
    exact ⟨_, rfl, by rw [HK.out]; exact HO2.out, HB2.out⟩
  · obtain ⟨go, co, eo, gb, gl, cl, hG⟩ := Kd.R_form HO.out (by omega)
    injection eo with ea en ec
    subst ec
    subst ea
    have HK := Aside0.mk hk
    have GB := Aside0.mk gb
    clear hk gb gl hG en
    go_enter Try.func30, Try.ntmps30
    go_wp2_with (go_at_call 39; refine (check_Missing.ip A0 _ c c1 l0 p g _ (Kd.C_below HR0.out HB.out) HR1.out (pw_cell_below HB.out HG.out)).mono ?_; rintro e w' ⟨rfl, hb⟩; rw [hx]; have HB2 := Aside0.mk (below_then HB.out HB.out.size hb); have HO2 := Aside0.mk (Kd.R_below HO.out hb); clear hb)
    clear HO HB HR1
    go_loopg [5, 6, 7] (p.length - n) (fun kq v5 v6 v7 w' => ∃ (i j : Nat) (s : List Int), v5 = .int .i64 i ∧ v6 = .int .i64 j ∧ i < j ∧ j ≤ p.length ∧ s.length = p.length ∧ Aside0 (kq + j = p.length + 1) ∧ Aside0 (s.take i = check_Missing.keep l0 (p.take j)) ∧ Aside0 (s.drop j = p.drop j) ∧ Aside0 (Kd.R (Kd.int .i64) 3 w' w0.heap.size (fun _ => True) (.slice (some ⟨go, 0, none⟩) p.length c1) s) ∧ Aside0 (Below w0.heap.size w0 w'))
    case atStart => exact ⟨n, n + 1, p, rfl, rfl, by omega, by omega, rfl, ⟨by omega⟩, ⟨HK.out.symm⟩, ⟨rfl⟩, HO2, HB2⟩
    case round =>
      clear HO2 HB2 HK hx hn
      obtain ⟨i, j, s, rfl, rfl, h1, h2, h3, HK, HA, HD, HO, HB⟩ := hrel
      by_cases c1j : j < p.length
      · have hji : (j : Int) < (s.length : Int) := by omega
        have h0 : 0 ≤ (j : Int) := by omega
        have hb0 : 0 ≤ (i : Int) := by omega
        obtain ⟨ad, ea, hx0⟩ := Kd.at_int (Kd.R_reads' HO.out).2.2 (j : Int) h0 hji
        injection ea with ea
        subst ea
        rw [Int.toNat_natCast, add_plain] at hx0
        have e1 : rd s j = rd p j := by
          have q := congrArg (fun l => l[0]?) HD.out
          simp only [List.getElem?_drop, Nat.add_zero] at q
          unfold rd; simp [List.getD, q]
        rw [e1] at hx0
        have hlj : i < s.length := by omega
        have hii : (i : Int) < (s.length : Int) := by omega
        have hfz : wr.frozen? ⟨go, i, none⟩ = false := by
          obtain ⟨g2, cc2, e2, _, _, cells, hG⟩ := Kd.R_form HO.out (by omega)
          injection e2 with e3
          injection e3 with e3
          injection e3 with e3
          rw [← e3] at hG
          exact blk_frozen hG _
        obtain ⟨ad2, ea2, hy0⟩ := Kd.at_int (Kd.R_reads' HO.out).2.2 (i : Int) hb0 hii
        injection ea2 with ea2
        subst ea2
        rw [Int.toNat_natCast, add_plain] at hy0
        have ks := check_Missing.keep_snoc l0 p j c1j
        have hp := (show Kd.R (Kd.int .i64) 3 wr w0.heap.size (fun _ => True) (.slice (some ⟨go, 0, none⟩) s.length c1) s from by rw [h3]; exact HO.out)
        have HP := Aside0.mk hp
        clear hp
        have hs3 := Aside0.mk h3
        have KS := Aside0.mk ks
        clear ks hii hji
        cases c2 : (check_Missing.hasB l0 (rd p j)) with
        | true =>
          have c3 : j < p.length := c1j
          go_wp2_with (go_at_call 31; refine (check_Missing.c1 A0 c l0 (rd p j) g _ (Kd.C_below HR0.out HB.out) (pw_cell_below HB.out HG.out)).mono ?_; rintro e w' ⟨rfl, hb⟩; rw [c2]; have HB2 := Aside0.mk (below_then HB.out HB.out.size hb); have HO2 := Aside0.mk (Kd.R_below HO.out hb); clear hb)
          go_roundg (gk - 1)
          case measure => have := HK.out; omega
          case rel => exact ⟨i, j + 1, s, rfl, by simp, by omega, by omega, hs3.out, ⟨by have := HK.out; omega⟩, ⟨by rw [KS.out, c2, if_pos rfl, List.append_nil]; exact HA.out⟩, ⟨by have := congrArg (List.drop 1) HD.out; simpa [List.drop_drop, Nat.add_comm] using this⟩, HO2, HB2⟩
        | false =>
          go_wp2_with (go_at_call 31; refine (check_Missing.c1 A0 c l0 (rd p j) g _ (Kd.C_below HR0.out HB.out) (pw_cell_below HB.out HG.out)).mono ?_; rintro e w' ⟨rfl, hb⟩; rw [c2]; have HB2 := Aside0.mk (below_then HB.out HB.out.size hb); have HO2 := Aside0.mk (Kd.R_below HP.out hb); have hz1 := (hb.cell (p := ⟨go, i, none⟩) (World.block_lt_of_cell? _ _ hy0)).trans hy0; have hz2 := (hb.frozen (p := ⟨go, i, none⟩) (World.block_lt_of_cell? _ _ hy0)).trans hfz; clear hb)
          have HP3 := Aside0.mk (Kd.R_put (h1 := fun _ => rfl) HO2.out (i : Int) (rd p j))
          have HO3 := Aside0.mk (show Kd.R (Kd.int .i64) 3 (w'.setCell ⟨go, i, none⟩ (.int .i64 (rd p j))) w0.heap.size (fun _ => True) (.slice (some ⟨go, 0, none⟩) p.length c1) (s.set i (rd p j)) from by have := HP3.out.1; rw [hs3.out] at this; exact this)
          have HB3 := Aside0.mk (HB2.out.grown HP3.out.2 HB2.out.size (by intro k hk; injection hk with hk; rw [← hk]; exact GB.out))
          go_roundg (gk - 1)
          case measure => have := HK.out; omega
          case rel => exact ⟨i + 1, j + 1, s.set i (rd p j), by simp, by simp, by omega, by omega, by simpa using hs3.out, ⟨by have := HK.out; omega⟩, ⟨check_Missing.take_set (by have := hs3.out; omega) (by rw [KS.out, c2, HA.out]; rfl)⟩, ⟨check_Missing.drop_set (by omega) HD.out⟩, HO3, HB3⟩
      · have hd : decide (j < p.length) = false := decide_eq_false c1j
        have hjp : j = p.length := by omega
        have hil : i < p.length := by omega
        have HO4 := Aside0.mk (Kd.R_take HO.out (m := i) (by omega))
        have HA4 := Aside0.mk (show s.take i = check_Missing.keep l0 p by rw [HA.out, hjp, List.take_length])
        have hsz := Aside0.mk HB.out.size
        have hci : ¬ c1 = i := by have := HLC.out; omega
        have hlc1 : p.length ≤ c1 := HLC.out
        have k1 : (i : Int) ≤ (c1 : Int) := by omega
        have k2 : (i : Int) ≤ (p.length : Int) := by omega
        have k0 : (0 : Int) ≤ (i : Int) := by omega
        have hgs : w0.heap.size ≤ go := GB.out
        clear HD HA hjp
        go_wp2_with (refine Xw.R_clear (w0 := w0) (Kd.int .i64) w0.heap.size rfl (.tmp 38) 33 3 (.int .i64 0) 8 rfl Try.underlying33 check_Missing.info rfl (by decide) rfl (fun _ => by simp [hci, Addr.add, Kd.int, Kd.scalar]) (by omega) HO4.out HB.out hsz.out ?_; intro w2 ho hb hg; have HO2 := Aside0.mk ho; have HB2 := Aside0.mk hb; clear ho hb hg)
        go_ret
        exact ⟨_, rfl, by rw [← HA4.out]; exact HO2.out, HB2.out⟩
def check_Missing.f (k : Nat) (l0 : List S27) (a1 : Int) : Option (List Int) := (check_May.f k l0 500).bind fun t => if t = 0 then (check_Places.f a1).bind fun p => some (check_Missing.keep l0 p) else some []
theorem check_Missing.mono : ∀ a0 a1 k, LeO (check_Missing.f k a0 a1) (check_Missing.f (k + 1) a0 a1) := by
  intro a0 a1 k
  unfold check_Missing.f
  exact LeO.bind (check_May.mono _ _ k) fun t => LeO.refl _
set_option maxHeartbeats 8000000 in
set_option maxRecDepth 100000 in
theorem check_Missing.calls (k : Nat) (A0 : Option Addr) (c0 : Nat) (l0 : List S27) (a1 : Int) (r : List Int) (w : World) (hr0 : Kd.C k27 w A0 l0.length l0) (hc0 : l0.length ≤ c0) (h : check_Missing.f k l0 a1 = some r) :
    Calls Try.prog 15 #[.slice A0 l0.length c0, .int .i64 a1] w fun e w' => ∃ v0_ : Value, e = .returned v0_ ∧ Kd.R (Kd.int .i64) 3 w' w.heap.size (fun _ => True) v0_ r ∧ Below w.heap.size w w' := by
  unfold check_Missing.f at h
  obtain ⟨t, ht, h⟩ := Option.bind_eq_some_iff.1 h
  have HR0 := Aside0.mk hr0
  have HC0 := Aside0.mk hc0
  have HT := Aside0.mk ht
  have HB1 := Aside0.mk (below_alloc (Below.refl w.heap.size w) (.cells #[.slice A0 l0.length c0] 22))
  have HG1 := Aside0.mk (show (w.alloc (.cells #[.slice A0 l0.length c0] 22)).cell? ⟨w.heap.size, 0, none⟩ = some (.slice A0 l0.length c0) by simp)
  clear hr0 hc0 ht
  by_cases c1 : t = 0
  · rw [if_pos c1] at h
    have d2 : (t != 0) = false := bne_eq_false_iff_eq.mpr c1
    obtain ⟨p, hp, h⟩ := Option.bind_eq_some_iff.1 h
    obtain rfl := Option.some.inj h
    have HP := Aside0.mk hp
    clear c1 hp h
    go_enter Try.func15, Try.ntmps15
    go_wp2_with (first | (go_at_call 20; refine (check_May.calls k _ _ _ 500 t _ (Kd.C_below HR0.out HB1.out) HC0.out HT.out).mono ?_; rintro e w3 ⟨rfl, hb⟩; have HB := Aside0.mk (below_step HB1.out hb); have HGa := Aside0.mk (pw_cell_below hb HG1.out); clear hb) | (go_at_call 18; refine (check_Places.calls a1 p _ HP.out).mono ?_; rintro e w4 ⟨v4, rfl, ho, hb⟩; have HB4 := Aside0.mk hb; have HO4 := Aside0.mk ho; clear hb ho) | (go_at_call 30; refine (check_Missing.df A0 c0 l0 p _ _ w3 _ HB4.out HO4.out (Kd.C_below HR0.out HB.out) HGa.out).mono ?_; rintro e w5 ⟨v5, rfl, ho, hb⟩; have HB5 := Aside0.mk (below_then HB.out HB.out.size hb); have HO5 := Aside0.mk ho; clear hb ho))
    go_ret
    exact ⟨_, rfl, Kd.R_lower HO5.out HB.out.size, HB5.out⟩
  · rw [if_neg c1] at h
    have d2 : (t != 0) = true := bne_iff_ne.mpr c1
    obtain rfl := Option.some.inj h
    go_enter Try.func15, Try.ntmps15
    go_wp2_with (go_at_call 20; refine (check_May.calls k _ _ _ 500 t _ (Kd.C_below HR0.out HB1.out) HC0.out HT.out).mono ?_; rintro e w3 ⟨rfl, hb⟩; have HB := Aside0.mk (below_step HB1.out hb); clear hb)
    go_ret
    exact ⟨_, rfl, Kd.R_nil _ _ _ _ _, HB.out⟩

end Go.Proofs.Ytgippbgcmmjnbaa.XB
