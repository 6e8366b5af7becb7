import Derived.Test.YtlgnfbgjdkbfoaaS06
namespace Go.Proofs.Ytlgnfbgjdkbfoaa.Wd
open Go.RowKit Go.Proofs.YtlgnfbgjdkbfoaaW.PrintWords Go.Proofs.YtlgnfbgjdkbfoaaW.PrintLast Go.Proofs.YtlgnfbgjdkbfoaaW.PrintMore Go.Proofs.YtlgnfbgjdkbfoaaXe Go.Proofs.YtlgnfbgjdkbfoaaXs
set_option linter.unusedVariables false
set_option linter.unusedSimpArgs false
attribute [local go_sem ↓] Go.wp_at_zero Go.wp_at_succ
theorem p128s (k : Nat) : (128 : Int) ^ (k + 1) = 128 * 128 ^ k := by rw [Int.pow_succ, Int.mul_comm]
theorem p128pos (k : Nat) : 0 < (128 : Int) ^ k := Int.pow_pos (by decide)
theorem scan_dec (b : List Int) (at0 : Nat) (hB : ∀ x ∈ b, 0 ≤ x ∧ x < 256) : ∀ (d k e a : Nat) (acc n : Int) (a' : Nat), k + d = 9 → d ≤ e + 1 → scanN b at0 d k a acc = .ok (n, a') → ∃ m, n = acc + m * 128 ^ k ∧ 0 ≤ m ∧ m < 128 ^ d ∧ (0 < k → 0 < m) ∧ a' ≤ b.length ∧ a < a' ∧ b.take a' = b.take a ++ encF e m
  | 0, _, _, _, _, _, _, _, _, h => by simp [scanN] at h
  | d + 1, k, e, a, acc, n, a', hk, he, h => by
    rw [scanN] at h
    cases hb : b[a]? with
    | none => rw [hb] at h; simp at h
    | some c =>
      rw [hb] at h
      simp only at h
      have hc := hB c (List.mem_of_getElem? hb)
      have hlt := (List.getElem?_eq_some_iff.1 hb).1
      have htk : b.take (a + 1) = b.take a ++ [c] := by rw [List.take_add_one, hb]; rfl
      by_cases h1 : c < 128
      · rw [if_pos h1] at h
        split at h
        · simp at h
        · rename_i hz
          simp only [Except.ok.injEq, Prod.mk.injEq] at h
          obtain ⟨rfl, rfl⟩ := h
          refine ⟨c, by rw [show c % 128 = c by omega], hc.1, ?_, fun hk0 => by omega, by omega, by omega, ?_⟩
          · have := p128pos d
            rw [p128s]
            omega
          · rw [htk]
            congr 1
            cases e with
            | zero => rfl
            | succ e => rw [encF, if_neg (by omega)]
      · rw [if_neg h1] at h
        split at h
        · simp at h
        · rename_i h8
          obtain ⟨m, g1, g2, g3, g4, g5, g6, g7⟩ := scan_dec b at0 hB d (k + 1) (e - 1) (a + 1) _ n a' (by omega) (by omega) h
          have hm := g4 (by omega)
          refine ⟨c % 128 + m * 128, ?_, by omega, by rw [p128s]; omega, fun _ => by omega, g5, by omega, ?_⟩
          · rw [g1, p128s, Int.add_assoc]
            congr 1
            rw [show m * (128 * 128 ^ k) = (m * 128) * 128 ^ k by rw [Int.mul_assoc], ← Int.add_mul]
          · rw [g7, htk, List.append_assoc]
            congr 1
            obtain ⟨e', rfl⟩ : ∃ e', e = e' + 1 := ⟨e - 1, by omega⟩
            rw [encF, if_pos (by omega), show (c % 128 + m * 128) % 128 + 128 = c by omega, show (c % 128 + m * 128) / 128 = m by omega]
            rfl
/-- a fault's place lies in the bytes -/
def Placed (b : List Int) (e : Int × Int) : Prop := e.1 ≠ 0 ∧ 0 ≤ e.2 ∧ e.2 ≤ b.length
theorem scan_err (b : List Int) (at0 : Nat) (h0 : at0 ≤ b.length) : ∀ (d k a : Nat) (acc : Int) (e : Int × Int), scanN b at0 d k a acc = .error e → Placed b e
  | 0, _, _, _, e, h => by
    simp only [scanN, Except.error.injEq] at h
    subst h
    exact ⟨by simp, by simp, by simpa using h0⟩
  | d + 1, k, a, acc, e, h => by
    rw [scanN] at h
    cases hb : b[a]? with
    | none =>
      rw [hb] at h
      simp only [Except.error.injEq] at h
      subst h
      exact ⟨by simp, by simp, by simp⟩
    | some c =>
      rw [hb] at h
      simp only at h
      split at h
      · split at h
        · simp only [Except.error.injEq] at h
          subst h
          exact ⟨by simp, by simp, by simpa using h0⟩
        · simp at h
      · split at h
        · simp only [Except.error.injEq] at h
          subst h
          exact ⟨by simp, by simp, by simpa using h0⟩
        · exact scan_err b at0 h0 d (k + 1) (a + 1) _ e h
theorem num_dec {b : List Int} (hB : ∀ x ∈ b, 0 ≤ x ∧ x < 256) {a a' : Nat} {n low high above : Int} (h : numP b a low high above = .ok (n, a')) : low ≤ n ∧ n ≤ high ∧ 0 ≤ n ∧ n < 128 ^ 9 ∧ a' ≤ b.length ∧ a < a' ∧ b.take a' = b.take a ++ encN n := by
  have hl := numP_low h
  unfold numP at h
  split at h
  · simp at h
  · rename_i n2 a2 hs
    split at h
    · simp at h
    · split at h
      · simp at h
      · simp only [Except.ok.injEq, Prod.mk.injEq] at h
        obtain ⟨rfl, rfl⟩ := h
        obtain ⟨m, g1, g2, g3, _, g5, g6, g7⟩ := scan_dec b a hB 9 0 9 a 0 n2 a2 rfl (by decide) hs
        have : n2 = m := by rw [g1]; simp
        subst this
        exact ⟨hl.1, hl.2, g2, g3, g5, g6, g7⟩
theorem num_err_at {b : List Int} {a : Nat} (ha : a ≤ b.length) {low high above : Int} (hab : above ≠ 0) {e : Int × Int} (h : numP b a low high above = .error e) : Placed b e := by
  unfold numP at h
  split at h
  · simp only [Except.error.injEq] at h
    subst h
    exact scan_err b a ha _ _ _ _ _ (by assumption)
  · split at h
    · simp only [Except.error.injEq] at h
      subst h
      exact ⟨by simp, by simp, by simpa using ha⟩
    · split at h
      · simp only [Except.error.injEq] at h
        subst h
        exact ⟨hab, by simp, by simpa using ha⟩
      · simp at h
def at0 (pre : List Int) : RS := ⟨pre.length, 0, 0⟩
/-- a reader that has told no fault stands in the bytes; one that has, tells a place in them -/
def Stands (b : List Int) (s : RS) : Prop := s.at_ ≤ b.length ∧ (s.err ≠ 0 → Placed b (s.err, s.fat))
theorem rNum_st {b : List Int} {s : RS} (h : Stands b s) {low high above : Int} (hab : above ≠ 0) (hB : ∀ x ∈ b, 0 ≤ x ∧ x < 256) : Stands b (rNum b s low high above).2 := by
  unfold rNum
  split
  · exact h
  · split
    · rename_i hs _ n a he
      exact ⟨(num_dec hB he).2.2.2.2.1, fun h' => absurd h' (by simpa using hs)⟩
    · rename_i hs _ x y he
      exact ⟨h.1, fun _ => num_err_at h.1 hab he⟩
theorem rNum_dec {b : List Int} {s : RS} (hB : ∀ x ∈ b, 0 ≤ x ∧ x < 256) {low high above : Int} (hab : above ≠ 0) (he : s.at_ ≤ b.length) (h : (rNum b s low high above).2.err = 0) : s.err = 0 ∧ low ≤ (rNum b s low high above).1 ∧ (rNum b s low high above).1 ≤ high ∧ 0 ≤ (rNum b s low high above).1 ∧ b.take (rNum b s low high above).2.at_ = b.take s.at_ ++ encN (rNum b s low high above).1 := by
  unfold rNum at h ⊢
  split
  · rename_i hs
    rw [if_pos hs] at h
    exact absurd h hs
  · rename_i hs
    rw [if_neg hs] at h
    split
    · rename_i n a hn
      have := num_dec hB hn
      exact ⟨by simpa using hs, this.1, this.2.1, this.2.2.1, this.2.2.2.2.2.2⟩
    · rename_i x y hn
      rw [hn] at h
      exact absurd h (num_err_at he hab hn).1
theorem txt_dec {b : List Int} (hB : ∀ x ∈ b, 0 ≤ x ∧ x < 256) {a a' : Nat} {most : Int} {xs : List Int} (h : txtP b a most = .ok (xs, a')) : a' ≤ b.length ∧ (xs.length : Int) ≤ most ∧ b.take a' = b.take a ++ (encN (xs.length : Int) ++ xs) ∧ ∀ x ∈ xs, 0 ≤ x ∧ x < 256 := by
  unfold txtP at h
  split at h
  · simp at h
  · rename_i n a2 hn
    split at h
    · simp at h
    · rename_i hl
      simp only [Except.ok.injEq, Prod.mk.injEq] at h
      obtain ⟨rfl, rfl⟩ := h
      obtain ⟨g1, g2, g3, _, g5, g6, g7⟩ := num_dec hB hn
      have hxl : ((b.take (a2 + n.toNat)).drop a2).length = n.toNat := by rw [List.length_drop, List.length_take]; omega
      refine ⟨by omega, by rw [hxl]; omega, ?_, fun x hx => hB x (List.mem_of_mem_take (List.mem_of_mem_drop hx))⟩
      rw [hxl, show ((n.toNat : Nat) : Int) = n by omega, ← List.append_assoc, ← g7]
      have := List.take_append_drop a2 (b.take (a2 + n.toNat))
      rw [List.take_take, show min a2 (a2 + n.toNat) = a2 by omega] at this
      exact this.symm
theorem txt_err_at {b : List Int} {a : Nat} (ha : a ≤ b.length) {most : Int} {e : Int × Int} (h : txtP b a most = .error e) : Placed b e := by
  unfold txtP at h
  split at h
  · rename_i e2 hn
    simp only [Except.error.injEq] at h
    subst h
    exact num_err_at ha (by decide) hn
  · split at h
    · simp only [Except.error.injEq] at h
      subst h
      exact ⟨by simp, by simp, by simp⟩
    · simp at h
theorem rTxt_st {b : List Int} {s : RS} (h : Stands b s) {most : Int} : Stands b (rTxt b s most).2 := by
  unfold rTxt
  split
  · exact h
  · split
    · rename_i hs _ x a he
      exact ⟨txtP_le he, fun h' => absurd h' (by simpa using hs)⟩
    · rename_i hs _ x y he
      exact ⟨h.1, fun _ => txt_err_at h.1 he⟩
theorem rTxt_dec {b : List Int} {s : RS} (hB : ∀ x ∈ b, 0 ≤ x ∧ x < 256) {most : Int} (he : s.at_ ≤ b.length) (h : (rTxt b s most).2.err = 0) : s.err = 0 ∧ ((rTxt b s most).1.length : Int) ≤ most ∧ b.take (rTxt b s most).2.at_ = b.take s.at_ ++ (encN ((rTxt b s most).1.length : Int) ++ (rTxt b s most).1) ∧ ∀ x ∈ (rTxt b s most).1, 0 ≤ x ∧ x < 256 := by
  unfold rTxt at h ⊢
  split
  · rename_i hs
    rw [if_pos hs] at h
    exact absurd h hs
  · rename_i hs
    rw [if_neg hs] at h
    split
    · rename_i n a hn
      have := txt_dec hB hn
      exact ⟨by simpa using hs, this.2.1, this.2.2.1, this.2.2.2⟩
    · rename_i x y hn
      rw [hn] at h
      exact absurd h (txt_err_at he hn).1
theorem rId_st {b : List Int} {s : RS} (h : Stands b s) : Stands b (rId b s).2 := by
  unfold rId
  split
  · exact h
  · split
    · rename_i hs _ x a he
      exact ⟨(idP_ok he).2, fun h' => absurd h' (by simpa using hs)⟩
    · rename_i hs _ x y he
      unfold idP at he
      split at he
      · simp only [Except.error.injEq, Prod.mk.injEq] at he
        obtain ⟨rfl, rfl⟩ := he
        exact ⟨h.1, fun _ => ⟨by simp, by simp, by simp⟩⟩
      · simp at he
theorem rId_dec {b : List Int} {s : RS} (h : (rId b s).2.err = 0) (he : s.at_ ≤ b.length) (hB : ∀ x ∈ b, 0 ≤ x ∧ x < 256) : s.err = 0 ∧ b.take (rId b s).2.at_ = b.take s.at_ ++ (rId b s).1 ∧ ∀ x ∈ (rId b s).1, 0 ≤ x ∧ x < 256 := by
  unfold rId at h ⊢
  split
  · rename_i hs
    rw [if_pos hs] at h
    exact absurd h hs
  · rename_i hs
    rw [if_neg hs] at h
    split
    · rename_i x a hn
      unfold idP at hn
      split at hn
      · simp at hn
      · simp only [Except.ok.injEq, Prod.mk.injEq] at hn
        obtain ⟨rfl, rfl⟩ := hn
        refine ⟨by simpa using hs, ?_, fun x hx => hB x (List.mem_of_mem_take (List.mem_of_mem_drop hx))⟩
        show b.take (s.at_ + 32) = _
        have := List.take_append_drop s.at_ (b.take (s.at_ + 32))
        rw [List.take_take, show min s.at_ (s.at_ + 32) = s.at_ by omega] at this
        exact this.symm
    · rename_i x y hn
      rw [hn] at h
      unfold idP at hn
      split at hn
      · simp only [Except.error.injEq, Prod.mk.injEq] at hn
        obtain ⟨rfl, rfl⟩ := hn
        simp at h
      · simp at hn
end Go.Proofs.Ytlgnfbgjdkbfoaa.Wd
namespace Go.Proofs.Ytlgnfbgjdkbfoaa.Rf
open Go.RowKit Go.Proofs.Ytlgnfbgjdkbfoaa.Wd Go.Proofs.YtlgnfbgjdkbfoaaW.PrintWords Go.Proofs.YtlgnfbgjdkbfoaaW.PrintLast Go.Proofs.YtlgnfbgjdkbfoaaW.PrintMore Go.Proofs.YtlgnfbgjdkbfoaaXe Go.Proofs.YtlgnfbgjdkbfoaaXs
set_option linter.unusedVariables false
set_option linter.unusedSimpArgs false
attribute [local go_sem ↓] Go.wp_at_zero Go.wp_at_succ
/-- the document's reader: its cells -/
def qC (v : Value) (s : RS) : List Value := [v, .int .i64 (s.at_ : Int), .int .i64 s.err, .int .i64 s.fat]
def rRef (g : Nat) (v : Value) (s : RS) : Res := .blk g (.cells (qC v s).toArray 99 (0, 0))
def sizeR (a : Nat) (R : Except (Int × Int) (Int × Nat)) : Int × Int × Int :=
  match R with
  | .ok (n, a') => ((a' : Int) - (a : Int), 0, 0)
  | .error (x, y) => (0, x, y)
theorem results_tc {P : Program} {fn : Func} {p p2 : Tmp} {ty : TypeId} (h : fn.results = #[.tmp p, .cell p2 ty]) (tmps : Array Value) (w : World) {g : Nat} {t : TypeId} {cs : Array Value} {fr : Nat × Nat} {d : TypeDesc} {v : Value}
    (hp : tmps.getD p undef = v) (hp2 : tmps.getD p2 undef = .pointer (some ⟨g, 0, Option.none⟩)) (hg : w.heap[g]? = some (.cells cs t fr)) (hu : P.underlying ty = some d) (hd : (match d with | .struct _ | .array _ _ => true | _ => false) = true) (hi : (P.info? ty).map (·.size) = some cs.size) : (results fn tmps).run P w = .ok (.tuple #[v, .agg cs]) w := by
  have hp' : tmps[p]?.getD undef = v := by simpa using hp
  have hp2' : tmps[p2]?.getD undef = .pointer (some ⟨g, 0, Option.none⟩) := by simpa using hp2
  simp [results, h, hp', hp2', asAddr, run_loadVar_row w g t ty cs fr d hg hu hd hi]
set_option maxHeartbeats 8000000 in
set_option maxRecDepth 100000 in
theorem c_size {w0 w : World} {Rs : List Res} (HP : Hp w0 w Rs) (i g : Nat) (A : Option Addr) (c : Nat) (b : List Int) (s : RS) (hi : Rs[i]? = some (rRef g (.slice A b.length c) s)) (ha : s.at_ ≤ b.length) (hB : ∀ x ∈ b, 0 ≤ x ∧ x < 256) (hb : b.length ≤ 140737488355328) (hR : ∀ w' : World, Below w0.heap.size w0 w' → Kd.C (Kd.int .u8) w' A b.length b) :
    Calls Try.prog 86 #[.pointer (some ⟨g, 0, none⟩)] w fun e w' => e = .returned (.tuple #[.int .i64 (sizeR s.at_ (scanN b s.at_ 9 0 s.at_ 0)).1, .agg #[.int .i64 (sizeR s.at_ (scanN b s.at_ 9 0 s.at_ 0)).2.1, .int .i64 (sizeR s.at_ (scanN b s.at_ 9 0 s.at_ 0)).2.2]]) ∧ Hp w0 w' Rs := by
  have HPn := Aside0.mk HP
  have HI := Aside0.mk (show ∀ {X : Res}, (X :: Rs)[i + 1]? = some (rRef g (.slice A b.length c) s) from fun {X} => hi)
  have HA := Aside0.mk ha
  have HB := Aside0.mk hB
  have HL := Aside0.mk hb
  have HR := Aside0.mk hR
  clear HP hi ha hB hb hR
  have HP := HPn
  clear HPn
  obtain ⟨R, hRR⟩ : ∃ R, scanN b s.at_ 9 0 s.at_ 0 = R := ⟨_, rfl⟩
  rw [hRR]
  have HRR := Aside0.mk hRR
  clear hRR
  go_enter Try.func86, Try.ntmps86
  go_wp2_with (first | ((with_reducible refine gate_dst (N := 3) rfl ?_); refine ev_alloc rfl 30 rfl (.agg #[.int .i64 0, .int .i64 0]) (by kernel_rfl) ?_; intro r3 wa hge hg hb; have HPn := Aside0.mk (HP.out.newB hb hg hge); clear HP; have HP := HPn; clear HPn; clear hge hg hb))
  go_loopg [4] 9 (fun kq v4 w' => ∃ (kk : Nat) (k acc : Int), v4 = .int .i64 k ∧ Aside0 (k = (kk : Int) + 1) ∧ Aside0 (kq + kk = 9) ∧ Aside0 (scanN b s.at_ kq kk (s.at_ + kk) acc = R) ∧ Aside0 (Hp w0 w' (.blk r3 (.cells #[.int .i64 0, .int .i64 0] 30 (0, 0)) :: Rs)))
  case atStart => exact ⟨0, 1, 0, rfl, ⟨rfl⟩, ⟨rfl⟩, HRR, HP⟩
  clear HP
  obtain ⟨kk, k, acc, rfl, HK, HQ, HS, HP⟩ := hrel
  have hk := HK.out
  have hgk : gk = 0 ∨ ∃ m, gk = m + 1 := by cases gk with | zero => exact .inl rfl | succ m => exact .inr ⟨m, rfl⟩
  rcases hgk with hgk | ⟨m, hgk⟩
  · have d1 : decide (k ≤ 9) = false := decide_eq_false (by have := HQ.out; omega)
    have HER := Aside0.mk (show sizeR s.at_ R = (0, 5, (s.at_ : Int)) from by rw [← HS.out, hgk]; rfl)
    clear hgk hk
    go_upto_region 11 with fail
    refine held_named (S := (fun w' => w'.cell? ⟨g, 0, none⟩ = some (.slice A b.length c) ∧ w'.cell? ⟨g, 1, none⟩ = some (.int .i64 (s.at_ : Int)))) (by kernel_rfl) (fun wd11 hwd11 => ?_)
    have HPn := Aside0.mk (HP.out.drewN 1)
    rw [← World.drew_is_drewN, hwd11] at HPn
    clear HP hwd11
    have HP := HPn
    clear HPn
    refine ⟨by (try dsimp only); exact ⟨blk_cell (HP.out.blk (i + 1) HI.out) 0, blk_cell (HP.out.blk (i + 1) HI.out) 1⟩, fun hHeld => ?_⟩
    refine wpAnyH_take (i := 0) (oi := ({ dst := (some 57), op := (Op.move (Operand.tmp 0)), type := 67, pos := "ref.go:71", after := #[{ on := 5, ground := (Ground.gcOnly Departure.lateStores) }], guard := none } : Oper)) (v := ?_) rfl (by kernel_rfl) (by kernel_rfl) (by kernel_rfl) (fun _ _ _ h => h) (Or.inl ⟨by rfl, ?_⟩) hHeld ?_
    rotate_left
    · intro w_ hSw; (try dsimp only at hSw); go_simp; try (with_reducible rfl)
    try simp only [Act.put, List.setIfInBounds_toArray, List.set_cons_zero, List.set_cons_succ]
    refine wpAnyH_take (i := 1) (oi := ({ dst := (some 58), op := (Op.nilCheck (Operand.tmp 57)), type := 0, pos := "ref.go:71", after := #[{ on := 0, ground := Ground.data }, { on := 5, ground := (Ground.gcOnly Departure.lateStores) }], guard := none } : Oper)) (v := ?_) rfl (by kernel_rfl) (by kernel_rfl) (by kernel_rfl) (fun _ _ _ h => h) (Or.inl ⟨by rfl, ?_⟩) hHeld ?_
    rotate_left
    · intro w_ hSw; (try dsimp only at hSw); go_simp; try (with_reducible rfl)
    try simp only [Act.put, List.setIfInBounds_toArray, List.set_cons_zero, List.set_cons_succ]
    refine wpAnyH_take (i := 2) (oi := ({ dst := (some 59), op := (Op.fieldAddr 99 (Operand.tmp 58) 1), type := 0, pos := "ref.go:71", after := #[{ on := 1, ground := Ground.data }, { on := 5, ground := (Ground.gcOnly Departure.lateStores) }], guard := none } : Oper)) (v := ?_) rfl (by kernel_rfl) (by kernel_rfl) (by kernel_rfl) (fun _ _ _ h => h) (Or.inl ⟨by rfl, ?_⟩) hHeld ?_
    rotate_left
    · intro w_ hSw; (try dsimp only at hSw); go_simp; try (with_reducible rfl)
    try simp only [Act.put, List.setIfInBounds_toArray, List.set_cons_zero, List.set_cons_succ]
    refine wpAnyH_take (i := 3) (oi := ({ dst := (some 60), op := (Op.load 3 (Operand.tmp 59)), type := 3, pos := "ref.go:71", after := #[{ on := 2, ground := Ground.data }, { on := 5, ground := (Ground.gcOnly Departure.lateStores) }], guard := none } : Oper)) (v := ?_) rfl (by kernel_rfl) (by kernel_rfl) (by kernel_rfl) (fun _ _ _ h => h) (Or.inl ⟨by rfl, ?_⟩) hHeld ?_
    rotate_left
    · intro w_ hSw; (try dsimp only at hSw); go_simp; try (with_reducible rfl)
    try simp only [Act.put, List.setIfInBounds_toArray, List.set_cons_zero, List.set_cons_succ]
    refine wpAnyH_take (i := 4) (oi := ({ dst := (some 61), op := (Op.build 30 #[(0, (Operand.const (Value.int IntKind.i64 5))), (1, (Operand.tmp 60))]), type := 30, pos := "ref.go:71", after := #[{ on := 3, ground := Ground.data }, { on := 5, ground := (Ground.gcOnly Departure.lateStores) }], guard := none } : Oper)) (v := ?_) rfl (by kernel_rfl) (by kernel_rfl) (by kernel_rfl) (fun _ _ _ h => h) (Or.inl ⟨by rfl, ?_⟩) hHeld ?_
    rotate_left
    · intro w_ hSw; (try dsimp only at hSw); go_simp; try (with_reducible rfl)
    try simp only [Act.put, List.setIfInBounds_toArray, List.set_cons_zero, List.set_cons_succ]
    refine wpAnyH_take (i := 5) (oi := ({ dst := (some 2), op := (Op.assign (Operand.const (Value.int IntKind.i64 0))), type := 3, pos := "ref.go:71", after := #[{ on := 0, ground := (Ground.textOnly Departure.lateStores) }, { on := 1, ground := (Ground.textOnly Departure.lateStores) }, { on := 2, ground := (Ground.textOnly Departure.lateStores) }, { on := 3, ground := (Ground.textOnly Departure.lateStores) }, { on := 4, ground := (Ground.textOnly Departure.lateStores) }], guard := none } : Oper)) (v := ?_) rfl (by kernel_rfl) (by kernel_rfl) (by kernel_rfl) (fun _ _ _ h => h) (Or.inl ⟨by rfl, ?_⟩) hHeld ?_
    rotate_left
    · intro w_ hSw; (try dsimp only at hSw); go_simp; try (with_reducible rfl)
    try simp only [Act.put, List.setIfInBounds_toArray, List.set_cons_zero, List.set_cons_succ]
    refine wpAnyH_ready (rs := [6]) (by kernel_rfl) (by simp) ?_
    refine AllReadyH.cons (o := ({ dst := none, op := (Op.store 30 (Operand.tmp 3) (Operand.tmp 61)), type := 0, pos := "ref.go:71", after := #[{ on := 4, ground := Ground.data }, { on := 5, ground := Ground.chain }, { on := 0, ground := Ground.phase }, { on := 1, ground := Ground.phase }, { on := 2, ground := Ground.phase }, { on := 3, ground := Ground.phase }, { on := 4, ground := Ground.phase }, { on := 5, ground := Ground.phase }], guard := none } : Oper)) rfl (fun K hK => ?_) AllReadyH.nil
    refine st_store (by rfl) 30 _ _ (by rfl) rfl r3 (by rfl) (cells := #[.int .i64 (5), .int .i64 (s.at_ : Int)]) (by rfl) (HP.out.blk 0 rfl) (by kernel_rfl) rfl (by simp [Value.oneCell']) ?_; intro wm hg hgr; have HPn := Aside0.mk (HP.out.setB 0 rfl hgr hg); clear HP hg hgr; have HP := HPn; clear HPn
    clear hHeld
    refine hK.out _ _ ?_ (fun hHeld => ?_)
    · (try dsimp only); exact ⟨blk_cell (HP.out.blk (i + 1) HI.out) 0, blk_cell (HP.out.blk (i + 1) HI.out) 1⟩
    clear hK K
    try simp only [Act.put, List.setIfInBounds_toArray, List.set_cons_zero, List.set_cons_succ]
    refine wpAnyH_done (by kernel_rfl) ?_ _
    go_wp2_with fail
    refine bodyPost_ret (results_tc rfl _ _ rfl rfl (HP.out.blk 0 rfl) Try.underlying30 rfl (by kernel_rfl)) rfl ?_
    exact ⟨by rw [HER.out]; rfl, Hp.drop1 HP.out⟩
  · have d1 : decide (k ≤ 9) = true := decide_eq_true (by have := HQ.out; omega)
    have HGK := Aside0.mk hgk
    have hs := HS.out
    rw [hgk, scanN] at hs
    obtain ⟨q, hq⟩ : ∃ q, (s.at_ : Int) + k - 1 = q := ⟨_, rfl⟩
    have HQE := Aside0.mk (show q = ((s.at_ + kk : Nat) : Int) from by rw [← hq, hk]; push_cast; omega)
    have e15 : IntKind.i64.wrap ((s.at_ : Int) + k) = (s.at_ : Int) + k := IntWalk.i64_in _ (by have := HA.out; have := HL.out; have := HQ.out; omega)
    have e16 : IntKind.i64.wrap ((s.at_ : Int) + k - 1) = q := by rw [← hq]; exact IntWalk.i64_in _ (by have := HA.out; have := HL.out; have := HQ.out; omega)
    have ek : IntKind.i64.wrap (k + 1) = k + 1 := IntWalk.i64_in _ (by have := HQ.out; omega)
    by_cases hq1 : s.at_ + kk < b.length
    case neg =>
      have d2 : decide ((b.length : Int) ≤ q) = true := decide_eq_true (by have := HQE.out; omega)
      rw [List.getElem?_eq_none (by omega)] at hs
      have HER := Aside0.mk (show sizeR s.at_ R = (0, 4, (b.length : Int)) from by rw [← hs]; rfl)
      clear hs hq hq1 hk hgk
      have c0 : wr.cell? ⟨g, 0, none⟩ = some (.slice A b.length c) := blk_cell (HP.out.blk (i + 1) HI.out) 0
      have c1 : wr.cell? ⟨g, 1, none⟩ = some (.int .i64 (s.at_ : Int)) := blk_cell (HP.out.blk (i + 1) HI.out) 1
      go_upto_region 6 with fail
      clear c0 c1
      refine held_named (S := (fun w' => w'.cell? ⟨g, 0, none⟩ = some (.slice A b.length c) ∧ w'.cell? ⟨g, 1, none⟩ = some (.int .i64 (s.at_ : Int)))) (by kernel_rfl) (fun wd6 hwd6 => ?_)
      have HPn := Aside0.mk (HP.out.drewN 1)
      rw [← World.drew_is_drewN, hwd6] at HPn
      clear HP hwd6
      have HP := HPn
      clear HPn
      refine ⟨by (try dsimp only); exact ⟨blk_cell (HP.out.blk (i + 1) HI.out) 0, blk_cell (HP.out.blk (i + 1) HI.out) 1⟩, fun hHeld => ?_⟩
      refine wpAnyH_take (i := 0) (oi := ({ dst := (some 24), op := (Op.move (Operand.tmp 0)), type := 67, pos := "ref.go:62", after := #[], guard := none } : Oper)) (v := ?_) rfl (by kernel_rfl) (by kernel_rfl) (by kernel_rfl) (fun _ _ _ h => h) (Or.inl ⟨by rfl, ?_⟩) hHeld ?_
      rotate_left
      · intro w_ hSw; (try dsimp only at hSw); go_simp; try (with_reducible rfl)
      try simp only [Act.put, List.setIfInBounds_toArray, List.set_cons_zero, List.set_cons_succ]
      refine wpAnyH_take (i := 1) (oi := ({ dst := (some 25), op := (Op.nilCheck (Operand.tmp 24)), type := 0, pos := "ref.go:62", after := #[{ on := 0, ground := Ground.data }], guard := none } : Oper)) (v := ?_) rfl (by kernel_rfl) (by kernel_rfl) (by kernel_rfl) (fun _ _ _ h => h) (Or.inl ⟨by rfl, ?_⟩) hHeld ?_
      rotate_left
      · intro w_ hSw; (try dsimp only at hSw); go_simp; try (with_reducible rfl)
      try simp only [Act.put, List.setIfInBounds_toArray, List.set_cons_zero, List.set_cons_succ]
      refine wpAnyH_take (i := 2) (oi := ({ dst := (some 26), op := (Op.fieldAddr 99 (Operand.tmp 25) 0), type := 0, pos := "ref.go:62", after := #[{ on := 1, ground := Ground.data }], guard := none } : Oper)) (v := ?_) rfl (by kernel_rfl) (by kernel_rfl) (by kernel_rfl) (fun _ _ _ h => h) (Or.inl ⟨by rfl, ?_⟩) hHeld ?_
      rotate_left
      · intro w_ hSw; (try dsimp only at hSw); go_simp; try (with_reducible rfl)
      try simp only [Act.put, List.setIfInBounds_toArray, List.set_cons_zero, List.set_cons_succ]
      refine wpAnyH_take (i := 3) (oi := ({ dst := (some 27), op := (Op.load 22 (Operand.tmp 26)), type := 22, pos := "ref.go:62", after := #[{ on := 2, ground := Ground.data }], guard := none } : Oper)) (v := ?_) rfl (by kernel_rfl) (by kernel_rfl) (by kernel_rfl) (fun _ _ _ h => h) (Or.inl ⟨by rfl, ?_⟩) hHeld ?_
      rotate_left
      · intro w_ hSw; (try dsimp only at hSw); go_simp; try (with_reducible rfl)
      try simp only [Act.put, List.setIfInBounds_toArray, List.set_cons_zero, List.set_cons_succ]
      refine wpAnyH_take (i := 4) (oi := ({ dst := (some 28), op := (Op.call { callee := (Callee.builtin Builtin.len), args := #[(Operand.tmp 27)], argTypes := #[22] }), type := 3, pos := "ref.go:62", after := #[{ on := 3, ground := Ground.data }], guard := none } : Oper)) (v := ?_) rfl (by kernel_rfl) (by kernel_rfl) (by kernel_rfl) (fun _ _ _ h => h) (Or.inl ⟨by rfl, ?_⟩) hHeld ?_
      rotate_left
      · intro w_ hSw; (try dsimp only at hSw); go_simp; try (with_reducible rfl)
      try simp only [Act.put, List.setIfInBounds_toArray, List.set_cons_zero, List.set_cons_succ]
      refine wpAnyH_take (i := 5) (oi := ({ dst := (some 29), op := (Op.build 30 #[(0, (Operand.const (Value.int IntKind.i64 4))), (1, (Operand.tmp 28))]), type := 30, pos := "ref.go:62", after := #[{ on := 4, ground := Ground.data }, { on := 6, ground := (Ground.gcOnly Departure.lateStores) }], guard := none } : Oper)) (v := ?_) rfl (by kernel_rfl) (by kernel_rfl) (by kernel_rfl) (fun _ _ _ h => h) (Or.inl ⟨by rfl, ?_⟩) hHeld ?_
      rotate_left
      · intro w_ hSw; (try dsimp only at hSw); go_simp; try (with_reducible rfl)
      try simp only [Act.put, List.setIfInBounds_toArray, List.set_cons_zero, List.set_cons_succ]
      refine wpAnyH_take (i := 6) (oi := ({ dst := (some 2), op := (Op.assign (Operand.const (Value.int IntKind.i64 0))), type := 3, pos := "ref.go:62", after := #[{ on := 0, ground := (Ground.textOnly Departure.lateStores) }, { on := 1, ground := (Ground.textOnly Departure.lateStores) }, { on := 2, ground := (Ground.textOnly Departure.lateStores) }, { on := 3, ground := (Ground.textOnly Departure.lateStores) }, { on := 4, ground := (Ground.textOnly Departure.lateStoresUnsure) }, { on := 5, ground := (Ground.textOnly Departure.lateStores) }], guard := none } : Oper)) (v := ?_) rfl (by kernel_rfl) (by kernel_rfl) (by kernel_rfl) (fun _ _ _ h => h) (Or.inl ⟨by rfl, ?_⟩) hHeld ?_
      rotate_left
      · intro w_ hSw; (try dsimp only at hSw); go_simp; try (with_reducible rfl)
      try simp only [Act.put, List.setIfInBounds_toArray, List.set_cons_zero, List.set_cons_succ]
      refine wpAnyH_ready (rs := [7]) (by kernel_rfl) (by simp) ?_
      refine AllReadyH.cons (o := ({ dst := none, op := (Op.store 30 (Operand.tmp 3) (Operand.tmp 29)), type := 0, pos := "ref.go:62", after := #[{ on := 5, ground := Ground.data }, { on := 6, ground := Ground.chain }, { on := 0, ground := Ground.phase }, { on := 1, ground := Ground.phase }, { on := 2, ground := Ground.phase }, { on := 3, ground := Ground.phase }, { on := 4, ground := Ground.phase }, { on := 5, ground := Ground.phase }, { on := 6, ground := Ground.phase }], guard := none } : Oper)) rfl (fun K hK => ?_) AllReadyH.nil
      refine st_store (by rfl) 30 _ _ (by rfl) rfl r3 (by rfl) (cells := #[.int .i64 (4), .int .i64 (b.length : Int)]) (by rfl) (HP.out.blk 0 rfl) (by kernel_rfl) rfl (by simp [Value.oneCell']) ?_; intro wm hg hgr; have HPn := Aside0.mk (HP.out.setB 0 rfl hgr hg); clear HP hg hgr; have HP := HPn; clear HPn
      clear hHeld
      refine hK.out _ _ ?_ (fun hHeld => ?_)
      · (try dsimp only); exact ⟨blk_cell (HP.out.blk (i + 1) HI.out) 0, blk_cell (HP.out.blk (i + 1) HI.out) 1⟩
      clear hK K
      try simp only [Act.put, List.setIfInBounds_toArray, List.set_cons_zero, List.set_cons_succ]
      refine wpAnyH_done (by kernel_rfl) ?_ _
      go_wp2_with fail
      refine bodyPost_ret (results_tc rfl _ _ rfl rfl (HP.out.blk 0 rfl) Try.underlying30 rfl (by kernel_rfl)) rfl ?_
      exact ⟨by rw [HER.out]; rfl, Hp.drop1 HP.out⟩
    have d2 : decide ((b.length : Int) ≤ q) = false := decide_eq_false (by have := HQE.out; omega)
    have p0 : 0 ≤ q := by have := HQE.out; omega
    have q0 : q < (b.length : Int) := by have := HQE.out; omega
    obtain ⟨z, hz⟩ : ∃ z, b[s.at_ + kk]? = some z := ⟨_, List.getElem?_eq_getElem hq1⟩
    rw [hz] at hs
    simp only at hs
    have hzr := HB.out z (List.mem_of_getElem? hz)
    obtain ⟨Ab, Ao, hA⟩ := C_addrK (by decide) (HR.out _ HP.out.below) (by omega)
    subst hA
    have HZC := Aside0.mk (fun (w' : World) (hb : Below w0.heap.size w0 w') => (show w'.cell? ⟨Ab, Ao + q.toNat, none⟩ = some (.int .u8 z) from by
      obtain ⟨cs, hcs, hra⟩ := range_K (HR.out w' hb) hz
      have hcs2 : cs = [.int .u8 z] := hcs
      subst hcs2
      have h0 := hra 0 _ rfl
      rw [show q.toNat = s.at_ + kk by have := HQE.out; omega]
      simpa [show (Kd.int .u8).sz = 1 from rfl] using h0))
    have c0 : wr.cell? ⟨g, 0, none⟩ = some (.slice (some ⟨Ab, Ao, none⟩) b.length c) := blk_cell (HP.out.blk (i + 1) HI.out) 0
    have c1 : wr.cell? ⟨g, 1, none⟩ = some (.int .i64 (s.at_ : Int)) := blk_cell (HP.out.blk (i + 1) HI.out) 1
    have c2 := HZC.out _ HP.out.below
    clear hq hz hq1 hgk
    by_cases h128 : z < 128
    · have d3 : decide (z < 128) = true := decide_eq_true h128
      rw [if_pos h128] at hs
      by_cases hz0 : z = 0 ∧ 0 < kk
      · rw [if_pos hz0] at hs
        have HER := Aside0.mk (show sizeR s.at_ R = (0, 4, (s.at_ : Int)) from by rw [← hs]; rfl)
        have z1 : decide (z = 0) = true := decide_eq_true hz0.1
        have z2 : (z == 0) = true := by simpa using hz0.1
        have z3 : decide (1 < k) = true := decide_eq_true (by omega)
        clear hs hk hz0 h128 hzr
        go_upto_region 8 with fail
        clear c0 c1 c2
        refine held_named (S := (fun w' => w'.cell? ⟨g, 0, none⟩ = some (.slice (some ⟨Ab, Ao, none⟩) b.length c) ∧ w'.cell? ⟨g, 1, none⟩ = some (.int .i64 (s.at_ : Int)))) (by kernel_rfl) (fun wd8 hwd8 => ?_)
        have HPn := Aside0.mk (HP.out.drewN 1)
        rw [← World.drew_is_drewN, hwd8] at HPn
        clear HP hwd8
        have HP := HPn
        clear HPn
        refine ⟨by (try dsimp only); exact ⟨blk_cell (HP.out.blk (i + 1) HI.out) 0, blk_cell (HP.out.blk (i + 1) HI.out) 1⟩, fun hHeld => ?_⟩
        refine wpAnyH_take (i := 0) (oi := ({ dst := (some 42), op := (Op.move (Operand.tmp 0)), type := 67, pos := "ref.go:65", after := #[{ on := 5, ground := (Ground.gcOnly Departure.lateStores) }], guard := none } : Oper)) (v := ?_) rfl (by kernel_rfl) (by kernel_rfl) (by kernel_rfl) (fun _ _ _ h => h) (Or.inl ⟨by rfl, ?_⟩) hHeld ?_
        rotate_left
        · intro w_ hSw; (try dsimp only at hSw); go_simp; try (with_reducible rfl)
        try simp only [Act.put, List.setIfInBounds_toArray, List.set_cons_zero, List.set_cons_succ]
        refine wpAnyH_take (i := 1) (oi := ({ dst := (some 43), op := (Op.nilCheck (Operand.tmp 42)), type := 0, pos := "ref.go:65", after := #[{ on := 0, ground := Ground.data }, { on := 5, ground := (Ground.gcOnly Departure.lateStores) }], guard := none } : Oper)) (v := ?_) rfl (by kernel_rfl) (by kernel_rfl) (by kernel_rfl) (fun _ _ _ h => h) (Or.inl ⟨by rfl, ?_⟩) hHeld ?_
        rotate_left
        · intro w_ hSw; (try dsimp only at hSw); go_simp; try (with_reducible rfl)
        try simp only [Act.put, List.setIfInBounds_toArray, List.set_cons_zero, List.set_cons_succ]
        refine wpAnyH_take (i := 2) (oi := ({ dst := (some 44), op := (Op.fieldAddr 99 (Operand.tmp 43) 1), type := 0, pos := "ref.go:65", after := #[{ on := 1, ground := Ground.data }, { on := 5, ground := (Ground.gcOnly Departure.lateStores) }], guard := none } : Oper)) (v := ?_) rfl (by kernel_rfl) (by kernel_rfl) (by kernel_rfl) (fun _ _ _ h => h) (Or.inl ⟨by rfl, ?_⟩) hHeld ?_
        rotate_left
        · intro w_ hSw; (try dsimp only at hSw); go_simp; try (with_reducible rfl)
        try simp only [Act.put, List.setIfInBounds_toArray, List.set_cons_zero, List.set_cons_succ]
        refine wpAnyH_take (i := 3) (oi := ({ dst := (some 45), op := (Op.load 3 (Operand.tmp 44)), type := 3, pos := "ref.go:65", after := #[{ on := 2, ground := Ground.data }, { on := 5, ground := (Ground.gcOnly Departure.lateStores) }], guard := none } : Oper)) (v := ?_) rfl (by kernel_rfl) (by kernel_rfl) (by kernel_rfl) (fun _ _ _ h => h) (Or.inl ⟨by rfl, ?_⟩) hHeld ?_
        rotate_left
        · intro w_ hSw; (try dsimp only at hSw); go_simp; try (with_reducible rfl)
        try simp only [Act.put, List.setIfInBounds_toArray, List.set_cons_zero, List.set_cons_succ]
        refine wpAnyH_take (i := 4) (oi := ({ dst := (some 46), op := (Op.build 30 #[(0, (Operand.const (Value.int IntKind.i64 4))), (1, (Operand.tmp 45))]), type := 30, pos := "ref.go:65", after := #[{ on := 3, ground := Ground.data }, { on := 5, ground := (Ground.gcOnly Departure.lateStores) }], guard := none } : Oper)) (v := ?_) rfl (by kernel_rfl) (by kernel_rfl) (by kernel_rfl) (fun _ _ _ h => h) (Or.inl ⟨by rfl, ?_⟩) hHeld ?_
        rotate_left
        · intro w_ hSw; (try dsimp only at hSw); go_simp; try (with_reducible rfl)
        try simp only [Act.put, List.setIfInBounds_toArray, List.set_cons_zero, List.set_cons_succ]
        refine wpAnyH_take (i := 5) (oi := ({ dst := (some 2), op := (Op.assign (Operand.const (Value.int IntKind.i64 0))), type := 3, pos := "ref.go:65", after := #[{ on := 0, ground := (Ground.textOnly Departure.lateStores) }, { on := 1, ground := (Ground.textOnly Departure.lateStores) }, { on := 2, ground := (Ground.textOnly Departure.lateStores) }, { on := 3, ground := (Ground.textOnly Departure.lateStores) }, { on := 4, ground := (Ground.textOnly Departure.lateStores) }], guard := none } : Oper)) (v := ?_) rfl (by kernel_rfl) (by kernel_rfl) (by kernel_rfl) (fun _ _ _ h => h) (Or.inl ⟨by rfl, ?_⟩) hHeld ?_
        rotate_left
        · intro w_ hSw; (try dsimp only at hSw); go_simp; try (with_reducible rfl)
        try simp only [Act.put, List.setIfInBounds_toArray, List.set_cons_zero, List.set_cons_succ]
        refine wpAnyH_ready (rs := [6]) (by kernel_rfl) (by simp) ?_
        refine AllReadyH.cons (o := ({ dst := none, op := (Op.store 30 (Operand.tmp 3) (Operand.tmp 46)), type := 0, pos := "ref.go:65", after := #[{ on := 4, ground := Ground.data }, { on := 5, ground := Ground.chain }, { on := 0, ground := Ground.phase }, { on := 1, ground := Ground.phase }, { on := 2, ground := Ground.phase }, { on := 3, ground := Ground.phase }, { on := 4, ground := Ground.phase }, { on := 5, ground := Ground.phase }], guard := none } : Oper)) rfl (fun K hK => ?_) AllReadyH.nil
        refine st_store (by rfl) 30 _ _ (by rfl) rfl r3 (by rfl) (cells := #[.int .i64 (4), .int .i64 (s.at_ : Int)]) (by rfl) (HP.out.blk 0 rfl) (by kernel_rfl) rfl (by simp [Value.oneCell']) ?_; intro wm hg hgr; have HPn := Aside0.mk (HP.out.setB 0 rfl hgr hg); clear HP hg hgr; have HP := HPn; clear HPn
        clear hHeld
        refine hK.out _ _ ?_ (fun hHeld => ?_)
        · (try dsimp only); exact ⟨blk_cell (HP.out.blk (i + 1) HI.out) 0, blk_cell (HP.out.blk (i + 1) HI.out) 1⟩
        clear hK K
        try simp only [Act.put, List.setIfInBounds_toArray, List.set_cons_zero, List.set_cons_succ]
        refine wpAnyH_done (by kernel_rfl) ?_ _
        go_wp2_with fail
        refine bodyPost_ret (results_tc rfl _ _ rfl rfl (HP.out.blk 0 rfl) Try.underlying30 rfl (by kernel_rfl)) rfl ?_
        exact ⟨by rw [HER.out]; rfl, Hp.drop1 HP.out⟩
      · rw [if_neg hz0] at hs
        have HOK := Aside0.mk (show sizeR s.at_ R = (k, 0, 0) from by
          rw [← hs]
          show ((((s.at_ + kk + 1 : Nat) : Int) - (s.at_ : Int), 0, 0) : Int × Int × Int) = _
          rw [hk]
          congr 1
          push_cast
          omega)
        by_cases hzz : z = 0
        · have z1 : decide (z = 0) = true := decide_eq_true hzz
          have z2 : (z == 0) = true := by simpa using hzz
          have z3 : decide (1 < k) = false := decide_eq_false (by omega)
          clear hs hk hz0 h128 hzr hzz
          go_wp2_with (first | ((with_reducible refine gate_store (t := 30) (p := 3) rfl ?_); refine ev_store rfl 30 (.tmp 3) (.tmp 56) rfl rfl _ rfl (cells := #[.int .i64 0, .int .i64 0]) rfl (HP.out.blk 0 rfl) (by kernel_rfl) rfl (by simp [Value.oneCell']) ?_; intro wm hg hgr; have HPn := Aside0.mk (HP.out.setB 0 rfl hgr hg); clear HP; have HP := HPn; clear HPn; clear hg hgr))
          refine bodyPost_ret (results_tc rfl _ _ rfl rfl (HP.out.blk 0 rfl) Try.underlying30 rfl (by kernel_rfl)) rfl ?_
          exact ⟨by rw [HOK.out]; rfl, Hp.drop1 HP.out⟩
        · have z1 : decide (z = 0) = false := decide_eq_false hzz
          have z2 : (z == 0) = false := by simpa using hzz
          clear hs hk hz0 h128 hzr hzz
          go_wp2_with (first | ((with_reducible refine gate_store (t := 30) (p := 3) rfl ?_); refine ev_store rfl 30 (.tmp 3) (.tmp 56) rfl rfl _ rfl (cells := #[.int .i64 0, .int .i64 0]) rfl (HP.out.blk 0 rfl) (by kernel_rfl) rfl (by simp [Value.oneCell']) ?_; intro wm hg hgr; have HPn := Aside0.mk (HP.out.setB 0 rfl hgr hg); clear HP; have HP := HPn; clear HPn; clear hg hgr))
          refine bodyPost_ret (results_tc rfl _ _ rfl rfl (HP.out.blk 0 rfl) Try.underlying30 rfl (by kernel_rfl)) rfl ?_
          exact ⟨by rw [HOK.out]; rfl, Hp.drop1 HP.out⟩
    · have d3 : decide (z < 128) = false := decide_eq_false h128
      have z1 : decide (z = 0) = false := decide_eq_false (by omega)
      have z2 : (z == 0) = false := by simpa using (show ¬ z = 0 by omega)
      rw [if_neg h128] at hs
      have HNX := Aside0.mk (show scanN b s.at_ m (kk + 1) (s.at_ + (kk + 1)) (acc + z % 128 * 128 ^ kk) = R from by
        by_cases h8 : kk = 8
        · rw [if_pos h8] at hs
          rw [← hs, show m = 0 by have := HQ.out; have := HGK.out; omega]
          rfl
        · rw [if_neg h8] at hs
          rw [← hs]
          rfl)
      clear hs hk h128 hzr
      go_wp2_with fail
      go_roundg m
      case measure => have := HGK.out; omega
      case rel => exact ⟨kk + 1, k + 1, _, rfl, ⟨by have := HK.out; push_cast; omega⟩, ⟨by have := HQ.out; have := HGK.out; omega⟩, HNX, HP⟩
end Go.Proofs.Ytlgnfbgjdkbfoaa.Rf
namespace Go.Proofs.Ytlgnfbgjdkbfoaa.Rf
open Go.RowKit Go.Proofs.Ytlgnfbgjdkbfoaa.Wd Go.Proofs.YtlgnfbgjdkbfoaaW.PrintWords Go.Proofs.YtlgnfbgjdkbfoaaW.PrintLast Go.Proofs.YtlgnfbgjdkbfoaaW.PrintMore Go.Proofs.YtlgnfbgjdkbfoaaXe Go.Proofs.YtlgnfbgjdkbfoaaXs
set_option linter.unusedVariables false
set_option linter.unusedSimpArgs false
attribute [local go_sem ↓] Go.wp_at_zero Go.wp_at_succ
def peekR (b : List Int) (s : RS) (low high above : Int) : (Int × Int) × RS :=
  if s.err ≠ 0 then ((0, 0), s) else match numP b s.at_ low high above with
  | .ok (n, a') => ((n, (a' : Int) - (s.at_ : Int)), s)
  | .error (x, y) => ((0, 0), { s with err := x, fat := y })
/-- so many digits, the lowest one first -/
def numD (b : List Int) (a : Nat) : Nat → Int
  | 0 => 0
  | k + 1 => (b[a]?.getD 0) % 128 + 128 * numD b (a + 1) k
theorem numD_lt (b : List Int) : ∀ (k a : Nat), 0 ≤ numD b a k ∧ numD b a k < 128 ^ k
  | 0, a => by simp [numD]
  | k + 1, a => by
    have h := numD_lt b k (a + 1)
    rw [numD, p128s]
    omega
theorem p128le {a b : Nat} (h : a ≤ b) : (128 : Int) ^ a ≤ 128 ^ b := by
  obtain ⟨c, rfl⟩ : ∃ c, b = a + c := ⟨b - a, by omega⟩
  induction c with
  | zero => exact Int.le_refl _
  | succ c ih =>
    have h1 := ih (by omega)
    have h2 := p128pos (a + c)
    rw [show a + (c + 1) = (a + c) + 1 by omega, p128s]
    omega
theorem scan_num (b : List Int) (at0 : Nat) (hB : ∀ x ∈ b, 0 ≤ x ∧ x < 256) : ∀ (d k a : Nat) (acc n : Int) (a' : Nat), scanN b at0 d k a acc = .ok (n, a') → ∃ m, 1 ≤ m ∧ m ≤ d ∧ a' = a + m ∧ a' ≤ b.length ∧ n = acc + numD b a m * 128 ^ k
  | 0, _, _, _, _, _, h => by simp [scanN] at h
  | d + 1, k, a, acc, n, a', h => by
    rw [scanN] at h
    cases hb : b[a]? with
    | none => rw [hb] at h; simp at h
    | some c =>
      rw [hb] at h
      simp only at h
      have hlt := (List.getElem?_eq_some_iff.1 hb).1
      split at h
      · split at h
        · simp at h
        · simp only [Except.ok.injEq, Prod.mk.injEq] at h
          obtain ⟨rfl, rfl⟩ := h
          refine ⟨1, Nat.le_refl _, by omega, rfl, by omega, ?_⟩
          rw [numD, hb, numD]
          simp
      · split at h
        · simp at h
        · obtain ⟨m, h1, h2, h3, h4, h5⟩ := scan_num b at0 hB d (k + 1) (a + 1) _ n a' h
          refine ⟨m + 1, by omega, by omega, by omega, h4, ?_⟩
          rw [h5, numD, hb, p128s, Int.add_assoc]
          congr 1
          show c % 128 * 128 ^ k + numD b (a + 1) m * (128 * 128 ^ k) = (c % 128 + 128 * numD b (a + 1) m) * 128 ^ k
          rw [Int.add_mul]
          congr 1
          rw [Int.mul_comm 128 (numD b (a + 1) m), Int.mul_assoc]
set_option maxHeartbeats 8000000 in
set_option maxRecDepth 100000 in
theorem c_peek {w0 w : World} {Rs : List Res} (HP : Hp w0 w Rs) (i g : Nat) (A : Option Addr) (c : Nat) (b : List Int) (s : RS) (hi : Rs[i]? = some (rRef g (.slice A b.length c) s)) (ha : s.at_ ≤ b.length) (hB : ∀ x ∈ b, 0 ≤ x ∧ x < 256) (hb : b.length ≤ 140737488355328) (hR : ∀ w' : World, Below w0.heap.size w0 w' → Kd.C (Kd.int .u8) w' A b.length b) (low high above : Int) :
    Calls Try.prog 73 #[.pointer (some ⟨g, 0, none⟩), .int .i64 low, .int .i64 high, .int .i64 above] w fun e w' => e = .returned (.tuple #[.int .i64 (peekR b s low high above).1.1, .int .i64 (peekR b s low high above).1.2]) ∧ Hp w0 w' (Rs.set i (rRef g (.slice A b.length c) (peekR b s low high above).2)) := by
  have HPn := Aside0.mk HP
  have HI0 := Aside0.mk hi
  have HSELF := Aside0.mk (show Rs.set i (rRef g (.slice A b.length c) s) = Rs from set_self hi)
  have HI := Aside0.mk (show ∀ {X : Res}, (X :: Rs)[i + 1]? = some (rRef g (.slice A b.length c) s) from fun {X} => hi)
  have HA := Aside0.mk ha
  have HB := Aside0.mk hB
  have HL := Aside0.mk hb
  have HR := Aside0.mk hR
  clear HP hi ha hB hb hR
  have HP := HPn
  clear HPn
  have c2 : w.cell? ⟨g, 2, none⟩ = some (.int .i64 s.err) := blk_cell (HP.out.blk i HI0.out) 2
  by_cases he : s.err = 0
  case neg =>
    have k1 : (s.err != 0) = true := by simpa using he
    have k2 : (s.err == 0) = false := by simpa using he
    have k3 : decide (s.err = 0) = false := decide_eq_false he
    have HPK := Aside0.mk (show peekR b s low high above = ((0, 0), s) from by unfold peekR; rw [if_pos he])
    clear he
    go_enter Try.func73, Try.ntmps73
    go_wp2_with fail
    refine bodyPost_ret (results_two2 rfl _ _ rfl rfl) rfl ?_
    exact ⟨by rw [HPK.out]; rfl, by rw [HPK.out, HSELF.out]; exact HP.out⟩
  have k1 : (s.err != 0) = false := by simpa using he
  have k2 : (s.err == 0) = true := by simpa using he
  have k3 : decide (s.err = 0) = true := decide_eq_true he
  have HPE := Aside0.mk (show peekR b s low high above = (match numP b s.at_ low high above with
  | .ok (n, a') => ((n, (a' : Int) - (s.at_ : Int)), s)
  | .error (x, y) => ((0, 0), { s with err := x, fat := y })) from by unfold peekR; rw [if_neg (by simpa using he)])
  clear he
  go_enter Try.func73, Try.ntmps73
  go_wp2_with fail
  clear c2
  refine (c_size HP.out i g A c b s HI0.out HA.out HB.out HL.out HR.out).mono ?_; rintro e wa ⟨rfl, hpn⟩
  clear HP
  have HP := Aside0.mk hpn
  clear hpn
  cases hR0 : scanN b s.at_ 9 0 s.at_ 0 with
  | error xy =>
    obtain ⟨x, y⟩ := xy
    have HPK := Aside0.mk (show peekR b s low high above = ((0, 0), { s with err := x, fat := y }) from by rw [HPE.out, num_err low high above hR0])
    simp only [sizeR]
    clear hR0 HPE
    go_wp2_with (first | ((with_reducible refine gate_dst (N := 11) rfl ?_); refine ev_alloc rfl 30 rfl (.agg #[.int .i64 0, .int .i64 0]) (by kernel_rfl) ?_; intro r11 wb hge hg hb; have HPn := Aside0.mk (HP.out.newB hb hg hge); clear HP; have HP := HPn; clear HPn; clear hge hg hb) | ((with_reducible refine gate_store (t := 30) (p := 11) rfl ?_); refine ev_store rfl 30 (.tmp 11) (.tmp 24) rfl rfl _ rfl (cells := #[.int .i64 (x), .int .i64 (y)]) rfl (HP.out.blk 0 rfl) (by kernel_rfl) rfl (by simp [Value.oneCell']) ?_; intro wc2 hg hgr; have HPn := Aside0.mk (HP.out.setB 0 rfl hgr hg); clear HP; have HP := HPn; clear HPn; clear hg hgr))
    go_loopg [12, 13] 0 (fun kq v12 v13 w' => v12 = .int .i64 0 ∧ v13 = .int .i64 (-1) ∧ Aside0 (kq = 0) ∧ Aside0 (Hp w0 w' (.blk r11 (.cells #[.int .i64 x, .int .i64 y] 30 (0, 0)) :: Rs)))
    case atStart => exact ⟨rfl, rfl, ⟨rfl⟩, HP⟩
    clear HP
    obtain ⟨rfl, rfl, HK, HP⟩ := hrel
    go_wp2_with (first | ((with_reducible refine gate_dst (N := 54) rfl ?_); refine ev_load rfl 30 (.tmp 11) rfl r11 rfl (HP.out.blk 0 rfl) Try.underlying30 rfl (by kernel_rfl) ?_) | ((with_reducible refine gate_store (t := 30) (p := 56) rfl ?_); refine ev_store_mid HP.out (i + 1) (cur := qC (.slice A b.length c) s) HI.out rfl rfl 30 (.tmp 56) (.tmp 54) rfl rfl (cs := [.int .i64 (x), .int .i64 (y)]) rfl (Nat.le_refl 4) (by kernel_rfl) (by simp [Value.oneCell']) ?_; intro wz hpn; clear HP; have HP := Aside0.mk hpn; clear hpn))
    refine bodyPost_ret (results_two2 rfl _ _ rfl rfl) rfl ?_
    exact ⟨by rw [HPK.out]; rfl, by rw [HPK.out]; exact Hp.drop1 HP.out⟩
  | ok na =>
    obtain ⟨n, a'⟩ := na
    obtain ⟨k, hk1, hk2, hk3, hk4, hk5⟩ := scan_num b s.at_ HB.out 9 0 s.at_ 0 n a' hR0
    have HPN := Aside0.mk (show peekR b s low high above = (match (if n < low then .error (5, (s.at_ : Int)) else if high < n then .error (above, (s.at_ : Int)) else .ok (n, a') : Except (Int × Int) (Int × Nat)) with
  | .ok (n, a') => ((n, (a' : Int) - (s.at_ : Int)), s)
  | .error (x, y) => ((0, 0), { s with err := x, fat := y })) from by rw [HPE.out, num_ok low high above hR0])
    simp only [sizeR]
    obtain ⟨K, hK⟩ : ∃ K : Int, (a' : Int) - (s.at_ : Int) = K := ⟨_, rfl⟩
    rw [hK]
    have HKE := Aside0.mk (show K = (k : Int) from by rw [← hK, hk3]; push_cast; omega)
    have HK9 := Aside0.mk (And.intro hk1 hk2)
    have HNE := Aside0.mk (show n = numD b s.at_ k from by rw [hk5]; simp)
    have HAL := Aside0.mk (show s.at_ + k ≤ b.length from by omega)
    have HKK := Aside0.mk hK
    obtain ⟨Ab, Ao, hA⟩ := C_addrK (by decide) (HR.out _ HP.out.below) (show 0 < b.length by omega)
    subst hA
    have ek1 : IntKind.i64.wrap (K - 1) = K - 1 := IntWalk.i64_in _ (by have := HKE.out; omega)
    clear hR0 HPE hk1 hk2 hk3 hk4 hk5 hK
    go_wp2_with (first | ((with_reducible refine gate_dst (N := 11) rfl ?_); refine ev_alloc rfl 30 rfl (.agg #[.int .i64 0, .int .i64 0]) (by kernel_rfl) ?_; intro r11 wb hge hg hb; have HPn := Aside0.mk (HP.out.newB hb hg hge); clear HP; have HP := HPn; clear HPn; clear hge hg hb) | ((with_reducible refine gate_store (t := 30) (p := 11) rfl ?_); refine ev_store rfl 30 (.tmp 11) (.tmp 24) rfl rfl _ rfl (cells := #[.int .i64 (0), .int .i64 (0)]) rfl (HP.out.blk 0 rfl) (by kernel_rfl) rfl (by simp [Value.oneCell']) ?_; intro wc2 hg hgr; have HPn := Aside0.mk (HP.out.setB 0 rfl hgr hg); clear HP; have HP := HPn; clear HPn; clear hg hgr))
    go_loopg [12, 13] k (fun kq v12 v13 w' => ∃ (m j : Int), v12 = .int .i64 m ∧ v13 = .int .i64 j ∧ Aside0 (j = (kq : Int) - 1) ∧ Aside0 (kq ≤ k) ∧ Aside0 (m = numD b (s.at_ + kq) (k - kq)) ∧ Aside0 (Hp w0 w' (.blk r11 (.cells #[.int .i64 0, .int .i64 0] 30 (0, 0)) :: Rs)))
    case atStart => exact ⟨0, K - 1, rfl, rfl, ⟨by have := HKE.out; omega⟩, ⟨Nat.le_refl _⟩, ⟨by rw [Nat.sub_self]; rfl⟩, HP⟩
    clear HP
    obtain ⟨m, j, rfl, rfl, HJ, HLE, HM, HP⟩ := hrel
    have hgk : gk = 0 ∨ ∃ t, gk = t + 1 := by cases gk with | zero => exact .inl rfl | succ t => exact .inr ⟨t, rfl⟩
    rcases hgk with hgk | ⟨t, hgk⟩
    case inr =>
      have d1 : decide (0 ≤ j) = true := decide_eq_true (by have := HJ.out; omega)
      have HGK := Aside0.mk hgk
      obtain ⟨q, hq⟩ : ∃ q, (s.at_ : Int) + j = q := ⟨_, rfl⟩
      have HQE := Aside0.mk (show q = ((s.at_ + t : Nat) : Int) from by rw [← hq, HJ.out, hgk]; push_cast; omega)
      have e42 : IntKind.i64.wrap ((s.at_ : Int) + j) = q := by rw [hq]; exact IntWalk.i64_in _ (by have := HQE.out; have := HAL.out; have := HLE.out; have := HL.out; omega)
      have p0 : 0 ≤ q := by have := HQE.out; omega
      have q0 : q < (b.length : Int) := by have := HQE.out; have := HAL.out; have := HLE.out; omega
      obtain ⟨z, hz⟩ : ∃ z, b[s.at_ + t]? = some z := ⟨_, List.getElem?_eq_getElem (by have := HAL.out; have := HLE.out; omega)⟩
      have hzr := HB.out z (List.mem_of_getElem? hz)
      have HZC := Aside0.mk (fun (w' : World) (hb : Below w0.heap.size w0 w') => (show w'.cell? ⟨Ab, Ao + q.toNat, none⟩ = some (.int .u8 z) from by
        obtain ⟨cs, hcs, hra⟩ := range_K (HR.out w' hb) hz
        have hcs2 : cs = [.int .u8 z] := hcs
        subst hcs2
        have h0 := hra 0 _ rfl
        rw [show q.toNat = s.at_ + t by have := HQE.out; omega]
        simpa [show (Kd.int .u8).sz = 1 from rfl] using h0))
      have hml := numD_lt b (k - gk) (s.at_ + gk)
      rw [← HM.out] at hml
      have hm8 : m < 128 ^ 8 := Int.lt_of_lt_of_le hml.2 (p128le (by have := HK9.out; omega))
      have hm9 : (128 : Int) ^ 8 = 72057594037927936 := by decide
      have em : IntKind.i64.wrap (128 * m) = 128 * m := IntWalk.i64_in _ (by omega)
      have ez : Int.tmod z 128 = z % 128 := Int.tmod_eq_emod_of_nonneg hzr.1
      have ezw : IntKind.i64.wrap (z % 128) = z % 128 := IntWalk.i64_in _ (by omega)
      have ezz : IntKind.i64.wrap z = z := IntWalk.i64_in _ (by omega)
      have emz : IntKind.i64.wrap (128 * m + z % 128) = 128 * m + z % 128 := IntWalk.i64_in _ (by omega)
      have ej : IntKind.i64.wrap (j - 1) = j - 1 := IntWalk.i64_in _ (by have := HJ.out; have := HLE.out; have := HK9.out; omega)
      have HMN := Aside0.mk (show 128 * m + z % 128 = numD b (s.at_ + t) (k - t) from by
        rw [show k - t = (k - gk) + 1 by have := HLE.out; omega, numD, hz, HM.out, hgk]
        show _ = z % 128 + 128 * numD b (s.at_ + t + 1) _
        rw [show s.at_ + (t + 1) = s.at_ + t + 1 by omega, Int.add_comm])
      clear hz hq hgk hml hm8 hm9 hzr
      go_wp2_with fail
      refine held_named (S := (fun w' => w'.cell? ⟨g, 0, none⟩ = some (.slice (some ⟨Ab, Ao, none⟩) b.length c) ∧ w'.cell? ⟨g, 1, none⟩ = some (.int .i64 (s.at_ : Int)) ∧ w'.cell? ⟨Ab, Ao + q.toNat, none⟩ = some (.int .u8 z))) (by kernel_rfl) (fun wd8 hwd8 => ?_)
      have HPn := Aside0.mk (HP.out.drewN 1)
      rw [← World.drew_is_drewN, hwd8] at HPn
      clear HP hwd8
      have HP := HPn
      clear HPn
      refine ⟨by (try dsimp only); exact ⟨blk_cell (HP.out.blk (i + 1) HI.out) 0, blk_cell (HP.out.blk (i + 1) HI.out) 1, HZC.out _ HP.out.below⟩, fun hHeld => ?_⟩
      refine wpAnyH_take (i := 0) (oi := ({ dst := (some 31), op := (Op.move (Operand.tmp 12)), type := 3, pos := "ref.go:82", after := #[], guard := none } : Oper)) (v := ?_) rfl (by kernel_rfl) (by kernel_rfl) (by kernel_rfl) (fun _ _ _ h => h) (Or.inl ⟨by rfl, ?_⟩) hHeld ?_
      rotate_left
      · intro w_ hSw; (try dsimp only at hSw); go_simp; try (with_reducible rfl)
      try simp only [Act.put, List.setIfInBounds_toArray, List.set_cons_zero, List.set_cons_succ]
      refine wpAnyH_take (i := 1) (oi := ({ dst := (some 32), op := (Op.binOp BinOp.mul 3 (Operand.const (Value.int IntKind.i64 128)) (Operand.tmp 31) 3), type := 3, pos := "ref.go:82", after := #[{ on := 0, ground := Ground.data }], guard := none } : Oper)) (v := ?_) rfl (by kernel_rfl) (by kernel_rfl) (by kernel_rfl) (fun _ _ _ h => h) (Or.inl ⟨by rfl, ?_⟩) hHeld ?_
      rotate_left
      · intro w_ hSw; (try dsimp only at hSw); go_simp; try (with_reducible rfl)
      try simp only [Act.put, List.setIfInBounds_toArray, List.set_cons_zero, List.set_cons_succ]
      refine wpAnyH_take (i := 2) (oi := ({ dst := (some 33), op := (Op.move (Operand.tmp 0)), type := 67, pos := "ref.go:82", after := #[], guard := none } : Oper)) (v := ?_) rfl (by kernel_rfl) (by kernel_rfl) (by kernel_rfl) (fun _ _ _ h => h) (Or.inl ⟨by rfl, ?_⟩) hHeld ?_
      rotate_left
      · intro w_ hSw; (try dsimp only at hSw); go_simp; try (with_reducible rfl)
      try simp only [Act.put, List.setIfInBounds_toArray, List.set_cons_zero, List.set_cons_succ]
      refine wpAnyH_take (i := 3) (oi := ({ dst := (some 34), op := (Op.nilCheck (Operand.tmp 33)), type := 0, pos := "ref.go:82", after := #[{ on := 2, ground := Ground.data }], guard := none } : Oper)) (v := ?_) rfl (by kernel_rfl) (by kernel_rfl) (by kernel_rfl) (fun _ _ _ h => h) (Or.inl ⟨by rfl, ?_⟩) hHeld ?_
      rotate_left
      · intro w_ hSw; (try dsimp only at hSw); go_simp; try (with_reducible rfl)
      try simp only [Act.put, List.setIfInBounds_toArray, List.set_cons_zero, List.set_cons_succ]
      refine wpAnyH_take (i := 4) (oi := ({ dst := (some 35), op := (Op.fieldAddr 99 (Operand.tmp 34) 0), type := 0, pos := "ref.go:82", after := #[{ on := 3, ground := Ground.data }], guard := none } : Oper)) (v := ?_) rfl (by kernel_rfl) (by kernel_rfl) (by kernel_rfl) (fun _ _ _ h => h) (Or.inl ⟨by rfl, ?_⟩) hHeld ?_
      rotate_left
      · intro w_ hSw; (try dsimp only at hSw); go_simp; try (with_reducible rfl)
      try simp only [Act.put, List.setIfInBounds_toArray, List.set_cons_zero, List.set_cons_succ]
      refine wpAnyH_take (i := 5) (oi := ({ dst := (some 36), op := (Op.load 22 (Operand.tmp 35)), type := 22, pos := "ref.go:82", after := #[{ on := 4, ground := Ground.data }], guard := none } : Oper)) (v := ?_) rfl (by kernel_rfl) (by kernel_rfl) (by kernel_rfl) (fun _ _ _ h => h) (Or.inl ⟨by rfl, ?_⟩) hHeld ?_
      rotate_left
      · intro w_ hSw; (try dsimp only at hSw); go_simp; try (with_reducible rfl)
      try simp only [Act.put, List.setIfInBounds_toArray, List.set_cons_zero, List.set_cons_succ]
      refine wpAnyH_take (i := 6) (oi := ({ dst := (some 37), op := (Op.move (Operand.tmp 0)), type := 67, pos := "ref.go:82", after := #[], guard := none } : Oper)) (v := ?_) rfl (by kernel_rfl) (by kernel_rfl) (by kernel_rfl) (fun _ _ _ h => h) (Or.inl ⟨by rfl, ?_⟩) hHeld ?_
      rotate_left
      · intro w_ hSw; (try dsimp only at hSw); go_simp; try (with_reducible rfl)
      try simp only [Act.put, List.setIfInBounds_toArray, List.set_cons_zero, List.set_cons_succ]
      refine wpAnyH_take (i := 7) (oi := ({ dst := (some 38), op := (Op.nilCheck (Operand.tmp 37)), type := 0, pos := "ref.go:82", after := #[{ on := 6, ground := Ground.data }], guard := none } : Oper)) (v := ?_) rfl (by kernel_rfl) (by kernel_rfl) (by kernel_rfl) (fun _ _ _ h => h) (Or.inl ⟨by rfl, ?_⟩) hHeld ?_
      rotate_left
      · intro w_ hSw; (try dsimp only at hSw); go_simp; try (with_reducible rfl)
      try simp only [Act.put, List.setIfInBounds_toArray, List.set_cons_zero, List.set_cons_succ]
      refine wpAnyH_take (i := 8) (oi := ({ dst := (some 39), op := (Op.fieldAddr 99 (Operand.tmp 38) 1), type := 0, pos := "ref.go:82", after := #[{ on := 7, ground := Ground.data }], guard := none } : Oper)) (v := ?_) rfl (by kernel_rfl) (by kernel_rfl) (by kernel_rfl) (fun _ _ _ h => h) (Or.inl ⟨by rfl, ?_⟩) hHeld ?_
      rotate_left
      · intro w_ hSw; (try dsimp only at hSw); go_simp; try (with_reducible rfl)
      try simp only [Act.put, List.setIfInBounds_toArray, List.set_cons_zero, List.set_cons_succ]
      refine wpAnyH_take (i := 9) (oi := ({ dst := (some 40), op := (Op.load 3 (Operand.tmp 39)), type := 3, pos := "ref.go:82", after := #[{ on := 8, ground := Ground.data }], guard := none } : Oper)) (v := ?_) rfl (by kernel_rfl) (by kernel_rfl) (by kernel_rfl) (fun _ _ _ h => h) (Or.inl ⟨by rfl, ?_⟩) hHeld ?_
      rotate_left
      · intro w_ hSw; (try dsimp only at hSw); go_simp; try (with_reducible rfl)
      try simp only [Act.put, List.setIfInBounds_toArray, List.set_cons_zero, List.set_cons_succ]
      refine wpAnyH_take (i := 10) (oi := ({ dst := (some 41), op := (Op.move (Operand.tmp 13)), type := 3, pos := "ref.go:82", after := #[], guard := none } : Oper)) (v := ?_) rfl (by kernel_rfl) (by kernel_rfl) (by kernel_rfl) (fun _ _ _ h => h) (Or.inl ⟨by rfl, ?_⟩) hHeld ?_
      rotate_left
      · intro w_ hSw; (try dsimp only at hSw); go_simp; try (with_reducible rfl)
      try simp only [Act.put, List.setIfInBounds_toArray, List.set_cons_zero, List.set_cons_succ]
      refine wpAnyH_take (i := 11) (oi := ({ dst := (some 42), op := (Op.binOp BinOp.add 3 (Operand.tmp 40) (Operand.tmp 41) 3), type := 3, pos := "ref.go:82", after := #[{ on := 9, ground := Ground.data }, { on := 10, ground := Ground.data }], guard := none } : Oper)) (v := ?_) rfl (by kernel_rfl) (by kernel_rfl) (by kernel_rfl) (fun _ _ _ h => h) (Or.inl ⟨by rfl, ?_⟩) hHeld ?_
      rotate_left
      · intro w_ hSw; (try dsimp only at hSw); go_simp; try (with_reducible rfl)
      try simp only [Act.put, List.setIfInBounds_toArray, List.set_cons_zero, List.set_cons_succ]
      refine wpAnyH_take (i := 12) (oi := ({ dst := (some 43), op := (Op.indexAddr 22 (Operand.tmp 36) (Operand.tmp 42)), type := 0, pos := "ref.go:82", after := #[{ on := 5, ground := Ground.data }, { on := 11, ground := Ground.data }], guard := none } : Oper)) (v := ?_) rfl (by kernel_rfl) (by kernel_rfl) (by kernel_rfl) (fun _ _ _ h => h) (Or.inl ⟨by rfl, ?_⟩) hHeld ?_
      rotate_left
      · intro w_ hSw; (try dsimp only at hSw); go_simp; try (with_reducible rfl)
      try simp only [Act.put, List.setIfInBounds_toArray, List.set_cons_zero, List.set_cons_succ]
      refine wpAnyH_take (i := 13) (oi := ({ dst := (some 44), op := (Op.load 5 (Operand.tmp 43)), type := 5, pos := "ref.go:82", after := #[{ on := 12, ground := Ground.data }], guard := none } : Oper)) (v := ?_) rfl (by kernel_rfl) (by kernel_rfl) (by kernel_rfl) (fun _ _ _ h => h) (Or.inl ⟨by rfl, ?_⟩) hHeld ?_
      rotate_left
      · intro w_ hSw; (try dsimp only at hSw); go_simp; try (with_reducible rfl)
      try simp only [Act.put, List.setIfInBounds_toArray, List.set_cons_zero, List.set_cons_succ]
      refine wpAnyH_take (i := 14) (oi := ({ dst := (some 45), op := (Op.convert 5 3 (Operand.tmp 44)), type := 3, pos := "ref.go:82", after := #[{ on := 13, ground := Ground.data }], guard := none } : Oper)) (v := ?_) rfl (by kernel_rfl) (by kernel_rfl) (by kernel_rfl) (fun _ _ _ h => h) (Or.inl ⟨by rfl, ?_⟩) hHeld ?_
      rotate_left
      · intro w_ hSw; (try dsimp only at hSw); go_simp; try (with_reducible rfl)
      try simp only [Act.put, List.setIfInBounds_toArray, List.set_cons_zero, List.set_cons_succ]
      refine wpAnyH_take (i := 15) (oi := ({ dst := (some 46), op := (Op.binOp BinOp.rem 3 (Operand.tmp 45) (Operand.const (Value.int IntKind.i64 128)) 3), type := 3, pos := "ref.go:82", after := #[{ on := 14, ground := Ground.data }], guard := none } : Oper)) (v := ?_) rfl (by kernel_rfl) (by kernel_rfl) (by kernel_rfl) (fun _ _ _ h => h) (Or.inl ⟨by rfl, ?_⟩) hHeld ?_
      rotate_left
      · intro w_ hSw; (try dsimp only at hSw); go_simp; try (with_reducible rfl)
      try simp only [Act.put, List.setIfInBounds_toArray, List.set_cons_zero, List.set_cons_succ]
      refine wpAnyH_take (i := 16) (oi := ({ dst := (some 47), op := (Op.binOp BinOp.add 3 (Operand.tmp 32) (Operand.tmp 46) 3), type := 3, pos := "ref.go:82", after := #[{ on := 1, ground := Ground.data }, { on := 15, ground := Ground.data }], guard := none } : Oper)) (v := ?_) rfl (by kernel_rfl) (by kernel_rfl) (by kernel_rfl) (fun _ _ _ h => h) (Or.inl ⟨by rfl, ?_⟩) hHeld ?_
      rotate_left
      · intro w_ hSw; (try dsimp only at hSw); go_simp; try (with_reducible rfl)
      try simp only [Act.put, List.setIfInBounds_toArray, List.set_cons_zero, List.set_cons_succ]
      refine wpAnyH_take (i := 17) (oi := ({ dst := (some 12), op := (Op.assign (Operand.tmp 47)), type := 3, pos := "ref.go:82", after := #[{ on := 16, ground := Ground.data }, { on := 0, ground := Ground.phase }, { on := 1, ground := Ground.phase }, { on := 2, ground := Ground.phase }, { on := 3, ground := Ground.phase }, { on := 4, ground := Ground.phase }, { on := 5, ground := Ground.phase }, { on := 6, ground := Ground.phase }, { on := 7, ground := Ground.phase }, { on := 8, ground := Ground.phase }, { on := 9, ground := Ground.phase }, { on := 10, ground := Ground.phase }, { on := 11, ground := Ground.phase }, { on := 12, ground := Ground.phase }, { on := 13, ground := Ground.phase }, { on := 14, ground := Ground.phase }, { on := 15, ground := Ground.phase }, { on := 16, ground := Ground.phase }], guard := none } : Oper)) (v := ?_) rfl (by kernel_rfl) (by kernel_rfl) (by kernel_rfl) (fun _ _ _ h => h) (Or.inl ⟨by rfl, ?_⟩) hHeld ?_
      rotate_left
      · intro w_ hSw; (try dsimp only at hSw); go_simp; try (with_reducible rfl)
      try simp only [Act.put, List.setIfInBounds_toArray, List.set_cons_zero, List.set_cons_succ]
      refine wpAnyH_done (by kernel_rfl) ?_ _
      go_wp2_with fail
      go_roundg t
      case measure => have := HGK.out; omega
      case rel => exact ⟨128 * m + z % 128, j - 1, rfl, rfl, ⟨by have := HJ.out; have := HGK.out; omega⟩, ⟨by have := HLE.out; have := HGK.out; omega⟩, HMN, HP⟩
    have d1 : decide (0 ≤ j) = false := decide_eq_false (by have := HJ.out; omega)
    have HMN := Aside0.mk (show m = n from by rw [HM.out, HNE.out, hgk]; simp)
    rw [HMN.out]
    have b1 : decide (K = 0) = false := decide_eq_false (by have := HKE.out; have := HK9.out; omega)
    have b2 : (K == 0) = false := by simpa using (show ¬ K = 0 by have := HKE.out; have := HK9.out; omega)
    clear hgk
    have c0 : wr.cell? ⟨g, 0, none⟩ = some (.slice (some ⟨Ab, Ao, none⟩) b.length c) := blk_cell (HP.out.blk (i + 1) HI.out) 0
    have c1 : wr.cell? ⟨g, 1, none⟩ = some (.int .i64 (s.at_ : Int)) := blk_cell (HP.out.blk (i + 1) HI.out) 1
    by_cases hlo : n < low
    · have b3 : decide (n < low) = true := decide_eq_true hlo
      have HPK := Aside0.mk (show peekR b s low high above = ((0, 0), { s with err := 5, fat := (s.at_ : Int) }) from by rw [HPN.out, if_pos hlo])
      clear hlo HPN
      go_wp2_with (first | ((with_reducible refine gate_store (t := 30) (p := 68) rfl ?_); refine ev_store_mid HP.out (i + 1) (cur := qC (.slice (some ⟨Ab, Ao, none⟩) b.length c) s) HI.out rfl rfl 30 (.tmp 68) (.tmp 66) rfl rfl (cs := [.int .i64 (5), .int .i64 (s.at_ : Int)]) rfl (Nat.le_refl 4) (by kernel_rfl) (by simp [Value.oneCell']) ?_; intro wz hpn; clear HP; have HP := Aside0.mk hpn; clear hpn))
      refine bodyPost_ret (results_two2 rfl _ _ rfl rfl) rfl ?_
      exact ⟨by rw [HPK.out]; rfl, by rw [HPK.out]; exact Hp.drop1 HP.out⟩
    have b3 : decide (n < low) = false := decide_eq_false hlo
    by_cases hhi : high < n
    · have b4 : decide (high < n) = true := decide_eq_true hhi
      have HPK := Aside0.mk (show peekR b s low high above = ((0, 0), { s with err := above, fat := (s.at_ : Int) }) from by rw [HPN.out, if_neg hlo, if_pos hhi])
      clear hlo hhi HPN
      go_wp2_with (first | ((with_reducible refine gate_store (t := 30) (p := 81) rfl ?_); refine ev_store_mid HP.out (i + 1) (cur := qC (.slice (some ⟨Ab, Ao, none⟩) b.length c) s) HI.out rfl rfl 30 (.tmp 81) (.tmp 79) rfl rfl (cs := [.int .i64 (above), .int .i64 (s.at_ : Int)]) rfl (Nat.le_refl 4) (by kernel_rfl) (by simp [Value.oneCell']) ?_; intro wz hpn; clear HP; have HP := Aside0.mk hpn; clear hpn))
      refine bodyPost_ret (results_two2 rfl _ _ rfl rfl) rfl ?_
      exact ⟨by rw [HPK.out]; rfl, by rw [HPK.out]; exact Hp.drop1 HP.out⟩
    have b4 : decide (high < n) = false := decide_eq_false hhi
    have HPK := Aside0.mk (show peekR b s low high above = ((n, K), s) from by rw [HPN.out, if_neg hlo, if_neg hhi]; simp only [HKK.out])
    clear hlo hhi HPN
    go_wp2_with fail
    refine bodyPost_ret (results_two2 rfl _ _ rfl rfl) rfl ?_
    exact ⟨by rw [HPK.out]; rfl, by rw [HPK.out, HSELF.out]; exact Hp.drop1 HP.out⟩
end Go.Proofs.Ytlgnfbgjdkbfoaa.Rf
namespace Go.Proofs.Ytlgnfbgjdkbfoaa.Rf
open Go.RowKit Go.Proofs.Ytlgnfbgjdkbfoaa.Wd Go.Proofs.YtlgnfbgjdkbfoaaW.PrintWords Go.Proofs.YtlgnfbgjdkbfoaaW.PrintLast Go.Proofs.YtlgnfbgjdkbfoaaW.PrintMore Go.Proofs.YtlgnfbgjdkbfoaaXe Go.Proofs.YtlgnfbgjdkbfoaaXs
set_option linter.unusedVariables false
set_option linter.unusedSimpArgs false
attribute [local go_sem ↓] Go.wp_at_zero Go.wp_at_succ
theorem peek_at (b : List Int) (s : RS) (low high above : Int) : (peekR b s low high above).2.at_ = s.at_ := by
  unfold peekR
  split
  · rfl
  · split <;> rfl
theorem peek_k {b : List Int} {s : RS} {low high above : Int} (hB : ∀ x ∈ b, 0 ≤ x ∧ x < 256) (ha : s.at_ ≤ b.length) : 0 ≤ (peekR b s low high above).1.2 ∧ (s.at_ : Int) + (peekR b s low high above).1.2 ≤ b.length := by
  unfold peekR
  split
  · exact ⟨by simp, by simp; omega⟩
  · split
    · rename_i n a' hn
      have := num_dec hB hn
      exact ⟨by simp; omega, by simp; omega⟩
    · exact ⟨by simp, by simp; omega⟩
/-- what Int and Count make of it -/
def stepR (p : (Int × Int) × RS) : RS := { p.2 with at_ := p.2.at_ + p.1.2.toNat }
theorem rNum_peek {b : List Int} {s : RS} {low high above : Int} (hB : ∀ x ∈ b, 0 ≤ x ∧ x < 256) : rNum b s low high above = ((peekR b s low high above).1.1, stepR (peekR b s low high above)) := by
  unfold rNum peekR
  by_cases h : s.err ≠ 0
  · rw [if_pos h, if_pos h]
    rfl
  · rw [if_neg h, if_neg h]
    cases hn : numP b s.at_ low high above with
    | ok p =>
      obtain ⟨n, a'⟩ := p
      have := num_dec hB hn
      simp only [stepR]
      rw [show s.at_ + ((a' : Int) - (s.at_ : Int)).toNat = a' by omega]
    | error p => rfl
theorem ref_fault {w : World} {g : Nat} {v : Value} {s : RS} (h : w.heap[g]? = some (.cells (qC v s).toArray 99 (0, 0))) : w.rangeAt g 2 [.int .i64 s.err, .int .i64 s.fat] := fun j x hx => by
  match j, hx with
  | 0, hx => exact (blk_cell h 2).trans hx
  | 1, hx => exact (blk_cell h 3).trans hx
theorem ev_elem2 {P : Program} {ops : Array Oper} {rest : List Oper} {o : Oper} {a : Act} {Q : Exit → Act → World → Prop} {W : World} (hgd : o.guard = none) (ty : TypeId) (x : Operand) (ho : o.op = .load ty x) (b off : Nat) (hx : a.eval x = .pointer (some ⟨b, off, none⟩)) (cs : List Value) (hc : W.rangeAt b off cs) {d : TypeDesc} (hu : P.underlying ty = some d) (hd : d.isRow = true) (hi : (P.info? ty).map (·.size) = some cs.length)
    (h : wpList P ops Q rest (a.put o.dst (.agg cs.toArray)) W) : wpList P ops Q (o :: rest) a W := wpList_load_mid hgd ty x ho b off hx cs d hc hu hd hi h
set_option maxHeartbeats 8000000 in
set_option maxRecDepth 100000 in
theorem c_qopen {w0 w : World} {Rs : List Res} (HP : Hp w0 w Rs) (A : Option Addr) (c : Nat) (b : List Int) :
    Calls Try.prog 37 #[.slice A b.length c] w fun e w' => ∃ g, e = .returned (.pointer (some ⟨g, 0, none⟩)) ∧ Hp w0 w' (rRef g (.slice A b.length c) rs0 :: Rs) := by
  have HPn := Aside0.mk HP
  clear HP
  have HP := HPn
  clear HPn
  go_enter Try.func37, Try.ntmps37
  go_wp2_with (first | ((with_reducible refine gate_dst (N := 5) rfl ?_); refine ev_box rfl 99 (.tmp 4) rfl ((qC (.slice A b.length c) rs0).toArray) rfl ?_; intro g wa hge hg hb; have HPn := Aside0.mk (HP.out.newB hb hg hge); clear HP; have HP := HPn; clear HPn; clear hge hg hb))
  go_ret
  exact ⟨g, rfl, HP.out⟩
set_option maxHeartbeats 8000000 in
set_option maxRecDepth 100000 in
theorem c_qint {w0 w : World} {Rs : List Res} (HP : Hp w0 w Rs) (i g : Nat) (A : Option Addr) (c : Nat) (b : List Int) (s : RS) (hi : Rs[i]? = some (rRef g (.slice A b.length c) s)) (ha : s.at_ ≤ b.length) (hB : ∀ x ∈ b, 0 ≤ x ∧ x < 256) (hb : b.length ≤ 140737488355328) (hR : ∀ w' : World, Below w0.heap.size w0 w' → Kd.C (Kd.int .u8) w' A b.length b) (low high : Int) :
    Calls Try.prog 38 #[.pointer (some ⟨g, 0, none⟩), .int .i64 low, .int .i64 high] w fun e w' => e = .returned (.int .i64 (rNum b s low high 5).1) ∧ Hp w0 w' (Rs.set i (rRef g (.slice A b.length c) (rNum b s low high 5).2)) := by
  have HPn := Aside0.mk HP
  have HI0 := Aside0.mk hi
  have HLT := Aside0.mk (List.getElem?_eq_some_iff.1 hi).1
  have HA := Aside0.mk ha
  have HB := Aside0.mk hB
  have HL := Aside0.mk hb
  have HR := Aside0.mk hR
  clear HP hi ha hB hb hR
  have HP := HPn
  clear HPn
  go_enter Try.func38, Try.ntmps38
  go_wp2_with fail
  refine (c_peek HP.out i g A c b s HI0.out HA.out HB.out HL.out HR.out low high 5).mono ?_; rintro e wa ⟨rfl, hpn⟩
  clear HP
  have HP := Aside0.mk hpn
  clear hpn
  have HN := Aside0.mk (rNum_peek (low := low) (high := high) (above := 5) (s := s) HB.out)
  have HK := Aside0.mk (peek_k (low := low) (high := high) (above := 5) HB.out HA.out)
  have HAT := Aside0.mk (peek_at b s low high 5)
  obtain ⟨⟨⟨n, k⟩, s1⟩, hp⟩ : ∃ p, (peekR b s low high 5) = p := ⟨_, rfl⟩
  rw [hp] at HP HN HK HAT ⊢
  clear hp
  simp only at HP HN HK HAT ⊢
  have HI1 := Aside0.mk (show (Rs.set i (rRef g (.slice A b.length c) s1))[i]? = some (rRef g (.slice A b.length c) s1) from set_get _ HLT.out)
  have c1 : wa.cell? ⟨g, 1, none⟩ = some (.int .i64 (s1.at_ : Int)) := blk_cell (HP.out.blk i HI1.out) 1
  have hf := frozC (HP.out.blk i HI1.out) 1
  have ea : IntKind.i64.wrap ((s1.at_ : Int) + k) = (s1.at_ : Int) + k := IntWalk.i64_in _ (by have := HK.out; have := HAT.out; have := HL.out; omega)
  go_wp2_with fail
  have HPn := Aside0.mk (HP.out.setCell i HI1.out 1 (.int .i64 ((s1.at_ : Int) + k)))
  clear HP c1 hf
  rw [List.set_set] at HPn
  go_ret
  refine ⟨by rw [HN.out]; rfl, ?_⟩
  rw [HN.out]
  have h9 : (rRef g (.slice A b.length c) (stepR ((n, k), s1))) = .blk g (.cells ((qC (.slice A b.length c) s1).toArray.setIfInBounds 1 (.int .i64 ((s1.at_ : Int) + k))) 99 (0, 0)) := by
    unfold rRef qC stepR
    simp only
    rw [show (((s1.at_ + k.toNat : Nat)) : Int) = (s1.at_ : Int) + k by have := HK.out.1; push_cast; omega]
    rfl
  rw [h9]
  exact HPn.out
set_option maxHeartbeats 8000000 in
set_option maxRecDepth 100000 in
theorem c_qcount {w0 w : World} {Rs : List Res} (HP : Hp w0 w Rs) (i g : Nat) (A : Option Addr) (c : Nat) (b : List Int) (s : RS) (hi : Rs[i]? = some (rRef g (.slice A b.length c) s)) (ha : s.at_ ≤ b.length) (hB : ∀ x ∈ b, 0 ≤ x ∧ x < 256) (hb : b.length ≤ 140737488355328) (hR : ∀ w' : World, Below w0.heap.size w0 w' → Kd.C (Kd.int .u8) w' A b.length b) (most : Int) :
    Calls Try.prog 39 #[.pointer (some ⟨g, 0, none⟩), .int .i64 most] w fun e w' => e = .returned (.int .i64 (rNum b s 0 most 3).1) ∧ Hp w0 w' (Rs.set i (rRef g (.slice A b.length c) (rNum b s 0 most 3).2)) := by
  have HPn := Aside0.mk HP
  have HI0 := Aside0.mk hi
  have HLT := Aside0.mk (List.getElem?_eq_some_iff.1 hi).1
  have HA := Aside0.mk ha
  have HB := Aside0.mk hB
  have HL := Aside0.mk hb
  have HR := Aside0.mk hR
  clear HP hi ha hB hb hR
  have HP := HPn
  clear HPn
  go_enter Try.func39, Try.ntmps39
  go_wp2_with fail
  refine (c_peek HP.out i g A c b s HI0.out HA.out HB.out HL.out HR.out 0 most 3).mono ?_; rintro e wa ⟨rfl, hpn⟩
  clear HP
  have HP := Aside0.mk hpn
  clear hpn
  have HN := Aside0.mk (rNum_peek (low := 0) (high := most) (above := 3) (s := s) HB.out)
  have HK := Aside0.mk (peek_k (low := 0) (high := most) (above := 3) HB.out HA.out)
  have HAT := Aside0.mk (peek_at b s 0 most 3)
  obtain ⟨⟨⟨n, k⟩, s1⟩, hp⟩ : ∃ p, (peekR b s 0 most 3) = p := ⟨_, rfl⟩
  rw [hp] at HP HN HK HAT ⊢
  clear hp
  simp only at HP HN HK HAT ⊢
  have HI1 := Aside0.mk (show (Rs.set i (rRef g (.slice A b.length c) s1))[i]? = some (rRef g (.slice A b.length c) s1) from set_get _ HLT.out)
  have c1 : wa.cell? ⟨g, 1, none⟩ = some (.int .i64 (s1.at_ : Int)) := blk_cell (HP.out.blk i HI1.out) 1
  have hf := frozC (HP.out.blk i HI1.out) 1
  have ea : IntKind.i64.wrap ((s1.at_ : Int) + k) = (s1.at_ : Int) + k := IntWalk.i64_in _ (by have := HK.out; have := HAT.out; have := HL.out; omega)
  go_wp2_with fail
  have HPn := Aside0.mk (HP.out.setCell i HI1.out 1 (.int .i64 ((s1.at_ : Int) + k)))
  clear HP c1 hf
  rw [List.set_set] at HPn
  go_ret
  refine ⟨by rw [HN.out]; rfl, ?_⟩
  rw [HN.out]
  have h9 : (rRef g (.slice A b.length c) (stepR ((n, k), s1))) = .blk g (.cells ((qC (.slice A b.length c) s1).toArray.setIfInBounds 1 (.int .i64 ((s1.at_ : Int) + k))) 99 (0, 0)) := by
    unfold rRef qC stepR
    simp only
    rw [show (((s1.at_ + k.toNat : Nat)) : Int) = (s1.at_ : Int) + k by have := HK.out.1; push_cast; omega]
    rfl
  rw [h9]
  exact HPn.out
set_option maxHeartbeats 8000000 in
set_option maxRecDepth 100000 in
theorem c_qend {w0 w : World} {Rs : List Res} (HP : Hp w0 w Rs) (i g : Nat) (A : Option Addr) (c : Nat) (b : List Int) (s : RS) (hi : Rs[i]? = some (rRef g (.slice A b.length c) s)) (ha : s.at_ ≤ b.length) (hB : ∀ x ∈ b, 0 ≤ x ∧ x < 256) (hb : b.length ≤ 140737488355328) :
    Calls Try.prog 42 #[.pointer (some ⟨g, 0, none⟩)] w fun e w' => e = .returned (.agg #[.int .i64 (rEnd b s).1, .int .i64 (rEnd b s).2]) ∧ Hp w0 w' Rs := by
  have HPn := Aside0.mk HP
  have HI := Aside0.mk (show ∀ {X : Res}, (X :: Rs)[i + 1]? = some (rRef g (.slice A b.length c) s) from fun {X} => hi)
  have HA := Aside0.mk ha
  clear HP hi ha hB hb
  have HP := HPn
  clear HPn
  go_enter Try.func42, Try.ntmps42
  go_upto_region 1 with (first | ((with_reducible refine gate_dst (N := 2) rfl ?_); refine ev_alloc rfl 30 rfl (.agg #[.int .i64 0, .int .i64 0]) (by kernel_rfl) ?_; intro r2 wa hge hg hb; have HPn := Aside0.mk (HP.out.newB hb hg hge); clear HP; have HP := HPn; clear HPn; clear hge hg hb))
  by_cases he : s.err = 0
  case neg =>
    have k1 : (s.err != 0) = true := by simpa using he
    have k2 : (s.err == 0) = false := by simpa using he
    have k3 : decide (s.err = 0) = false := decide_eq_false he
    have HE := Aside0.mk (show rEnd b s = (s.err, s.fat) from by unfold rEnd; rw [if_neg (fun h => he h.1)])
    clear he
    refine held_named (S := (fun w' => w'.cell? ⟨g, 0, none⟩ = some (.slice A b.length c) ∧ w'.cell? ⟨g, 1, none⟩ = some (.int .i64 (s.at_ : Int)) ∧ w'.cell? ⟨g, 2, none⟩ = some (.int .i64 s.err))) (by kernel_rfl) (fun wd1 hwd1 => ?_)
    have HPn := Aside0.mk (HP.out.drewN 1)
    rw [← World.drew_is_drewN, hwd1] at HPn
    clear HP hwd1
    have HP := HPn
    clear HPn
    refine ⟨by (try dsimp only); exact ⟨blk_cell (HP.out.blk (i + 1) HI.out) 0, blk_cell (HP.out.blk (i + 1) HI.out) 1, blk_cell (HP.out.blk (i + 1) HI.out) 2⟩, fun hHeld => ?_⟩
    refine wpAnyH_take (i := 0) (oi := ({ dst := (some 3), op := (Op.move (Operand.tmp 0)), type := 67, pos := "ref.go:143", after := #[], guard := none } : Oper)) (v := ?_) rfl (by kernel_rfl) (by kernel_rfl) (by kernel_rfl) (fun _ _ _ h => h) (Or.inl ⟨by rfl, ?_⟩) hHeld ?_
    rotate_left
    · intro w_ hSw; (try dsimp only at hSw); go_simp; try (with_reducible rfl)
    try simp only [Act.put, List.setIfInBounds_toArray, List.set_cons_zero, List.set_cons_succ]
    refine wpAnyH_take (i := 1) (oi := ({ dst := (some 4), op := (Op.nilCheck (Operand.tmp 3)), type := 0, pos := "ref.go:143", after := #[{ on := 0, ground := Ground.data }], guard := none } : Oper)) (v := ?_) rfl (by kernel_rfl) (by kernel_rfl) (by kernel_rfl) (fun _ _ _ h => h) (Or.inl ⟨by rfl, ?_⟩) hHeld ?_
    rotate_left
    · intro w_ hSw; (try dsimp only at hSw); go_simp; try (with_reducible rfl)
    try simp only [Act.put, List.setIfInBounds_toArray, List.set_cons_zero, List.set_cons_succ]
    refine wpAnyH_take (i := 2) (oi := ({ dst := (some 5), op := (Op.fieldAddr 99 (Operand.tmp 4) 2), type := 0, pos := "ref.go:143", after := #[{ on := 1, ground := Ground.data }], guard := none } : Oper)) (v := ?_) rfl (by kernel_rfl) (by kernel_rfl) (by kernel_rfl) (fun _ _ _ h => h) (Or.inl ⟨by rfl, ?_⟩) hHeld ?_
    rotate_left
    · intro w_ hSw; (try dsimp only at hSw); go_simp; try (with_reducible rfl)
    try simp only [Act.put, List.setIfInBounds_toArray, List.set_cons_zero, List.set_cons_succ]
    refine wpAnyH_take (i := 3) (oi := ({ dst := (some 6), op := (Op.fieldAddr 30 (Operand.tmp 5) 0), type := 0, pos := "ref.go:143", after := #[{ on := 2, ground := Ground.data }], guard := none } : Oper)) (v := ?_) rfl (by kernel_rfl) (by kernel_rfl) (by kernel_rfl) (fun _ _ _ h => h) (Or.inl ⟨by rfl, ?_⟩) hHeld ?_
    rotate_left
    · intro w_ hSw; (try dsimp only at hSw); go_simp; try (with_reducible rfl)
    try simp only [Act.put, List.setIfInBounds_toArray, List.set_cons_zero, List.set_cons_succ]
    refine wpAnyH_take (i := 4) (oi := ({ dst := (some 7), op := (Op.load 28 (Operand.tmp 6)), type := 28, pos := "ref.go:143", after := #[{ on := 3, ground := Ground.data }], guard := none } : Oper)) (v := ?_) rfl (by kernel_rfl) (by kernel_rfl) (by kernel_rfl) (fun _ _ _ h => h) (Or.inl ⟨by rfl, ?_⟩) hHeld ?_
    rotate_left
    · intro w_ hSw; (try dsimp only at hSw); go_simp; try (with_reducible rfl)
    try simp only [Act.put, List.setIfInBounds_toArray, List.set_cons_zero, List.set_cons_succ]
    refine wpAnyH_take (i := 5) (oi := ({ dst := (some 8), op := (Op.binOp BinOp.neq 28 (Operand.tmp 7) (Operand.const (Value.int IntKind.i64 0)) 28), type := 4, pos := "ref.go:143", after := #[{ on := 4, ground := Ground.data }], guard := none } : Oper)) (v := ?_) rfl (by kernel_rfl) (by kernel_rfl) (by kernel_rfl) (fun _ _ _ h => h) (Or.inl ⟨by rfl, ?_⟩) hHeld ?_
    rotate_left
    · intro w_ hSw; (try dsimp only at hSw); go_simp; try (with_reducible rfl)
    try simp only [Act.put, List.setIfInBounds_toArray, List.set_cons_zero, List.set_cons_succ]
    refine wpAnyH_take (i := 6) (oi := ({ dst := (some 9), op := (Op.move (Operand.tmp 8)), type := 4, pos := "ref.go:143", after := #[{ on := 5, ground := Ground.data }], guard := none } : Oper)) (v := ?_) rfl (by kernel_rfl) (by kernel_rfl) (by kernel_rfl) (fun _ _ _ h => h) (Or.inl ⟨by rfl, ?_⟩) hHeld ?_
    rotate_left
    · intro w_ hSw; (try dsimp only at hSw); go_simp; try (with_reducible rfl)
    try simp only [Act.put, List.setIfInBounds_toArray, List.set_cons_zero, List.set_cons_succ]
    refine wpAnyH_take (i := 7) (oi := ({ dst := (some 10), op := (Op.move (Operand.tmp 0)), type := 67, pos := "ref.go:143", after := #[{ on := 6, ground := Ground.guard }], guard := (some (6, false)) } : Oper)) (v := _) rfl (by kernel_rfl) (by kernel_rfl) (by kernel_rfl) (fun _ _ _ h => h) (Or.inr ⟨by rfl, rfl⟩) hHeld ?_
    try simp only [Act.put, List.setIfInBounds_toArray, List.set_cons_zero, List.set_cons_succ]
    refine wpAnyH_take (i := 8) (oi := ({ dst := (some 11), op := (Op.nilCheck (Operand.tmp 10)), type := 0, pos := "ref.go:143", after := #[{ on := 7, ground := Ground.data }, { on := 6, ground := Ground.guard }], guard := (some (6, false)) } : Oper)) (v := _) rfl (by kernel_rfl) (by kernel_rfl) (by kernel_rfl) (fun _ _ _ h => h) (Or.inr ⟨by rfl, rfl⟩) hHeld ?_
    try simp only [Act.put, List.setIfInBounds_toArray, List.set_cons_zero, List.set_cons_succ]
    refine wpAnyH_take (i := 9) (oi := ({ dst := (some 12), op := (Op.fieldAddr 99 (Operand.tmp 11) 1), type := 0, pos := "ref.go:143", after := #[{ on := 8, ground := Ground.data }, { on := 6, ground := Ground.guard }], guard := (some (6, false)) } : Oper)) (v := _) rfl (by kernel_rfl) (by kernel_rfl) (by kernel_rfl) (fun _ _ _ h => h) (Or.inr ⟨by rfl, rfl⟩) hHeld ?_
    try simp only [Act.put, List.setIfInBounds_toArray, List.set_cons_zero, List.set_cons_succ]
    refine wpAnyH_take (i := 10) (oi := ({ dst := (some 13), op := (Op.load 3 (Operand.tmp 12)), type := 3, pos := "ref.go:143", after := #[{ on := 9, ground := Ground.data }, { on := 6, ground := Ground.guard }], guard := (some (6, false)) } : Oper)) (v := _) rfl (by kernel_rfl) (by kernel_rfl) (by kernel_rfl) (fun _ _ _ h => h) (Or.inr ⟨by rfl, rfl⟩) hHeld ?_
    try simp only [Act.put, List.setIfInBounds_toArray, List.set_cons_zero, List.set_cons_succ]
    refine wpAnyH_take (i := 11) (oi := ({ dst := (some 14), op := (Op.move (Operand.tmp 0)), type := 67, pos := "ref.go:143", after := #[{ on := 6, ground := Ground.guard }], guard := (some (6, false)) } : Oper)) (v := _) rfl (by kernel_rfl) (by kernel_rfl) (by kernel_rfl) (fun _ _ _ h => h) (Or.inr ⟨by rfl, rfl⟩) hHeld ?_
    try simp only [Act.put, List.setIfInBounds_toArray, List.set_cons_zero, List.set_cons_succ]
    refine wpAnyH_take (i := 12) (oi := ({ dst := (some 15), op := (Op.nilCheck (Operand.tmp 14)), type := 0, pos := "ref.go:143", after := #[{ on := 11, ground := Ground.data }, { on := 6, ground := Ground.guard }], guard := (some (6, false)) } : Oper)) (v := _) rfl (by kernel_rfl) (by kernel_rfl) (by kernel_rfl) (fun _ _ _ h => h) (Or.inr ⟨by rfl, rfl⟩) hHeld ?_
    try simp only [Act.put, List.setIfInBounds_toArray, List.set_cons_zero, List.set_cons_succ]
    refine wpAnyH_take (i := 13) (oi := ({ dst := (some 16), op := (Op.fieldAddr 99 (Operand.tmp 15) 0), type := 0, pos := "ref.go:143", after := #[{ on := 12, ground := Ground.data }, { on := 6, ground := Ground.guard }], guard := (some (6, false)) } : Oper)) (v := _) rfl (by kernel_rfl) (by kernel_rfl) (by kernel_rfl) (fun _ _ _ h => h) (Or.inr ⟨by rfl, rfl⟩) hHeld ?_
    try simp only [Act.put, List.setIfInBounds_toArray, List.set_cons_zero, List.set_cons_succ]
    refine wpAnyH_take (i := 14) (oi := ({ dst := (some 17), op := (Op.load 22 (Operand.tmp 16)), type := 22, pos := "ref.go:143", after := #[{ on := 13, ground := Ground.data }, { on := 6, ground := Ground.guard }], guard := (some (6, false)) } : Oper)) (v := _) rfl (by kernel_rfl) (by kernel_rfl) (by kernel_rfl) (fun _ _ _ h => h) (Or.inr ⟨by rfl, rfl⟩) hHeld ?_
    try simp only [Act.put, List.setIfInBounds_toArray, List.set_cons_zero, List.set_cons_succ]
    refine wpAnyH_take (i := 15) (oi := ({ dst := (some 18), op := (Op.call { callee := (Callee.builtin Builtin.len), args := #[(Operand.tmp 17)], argTypes := #[22] }), type := 3, pos := "ref.go:143", after := #[{ on := 14, ground := Ground.data }, { on := 6, ground := Ground.guard }], guard := (some (6, false)) } : Oper)) (v := _) rfl (by kernel_rfl) (by kernel_rfl) (by kernel_rfl) (fun _ _ _ h => h) (Or.inr ⟨by rfl, rfl⟩) hHeld ?_
    try simp only [Act.put, List.setIfInBounds_toArray, List.set_cons_zero, List.set_cons_succ]
    refine wpAnyH_take (i := 16) (oi := ({ dst := (some 19), op := (Op.binOp BinOp.eql 3 (Operand.tmp 13) (Operand.tmp 18) 3), type := 4, pos := "ref.go:143", after := #[{ on := 10, ground := Ground.data }, { on := 15, ground := Ground.data }, { on := 6, ground := Ground.guard }], guard := (some (6, false)) } : Oper)) (v := _) rfl (by kernel_rfl) (by kernel_rfl) (by kernel_rfl) (fun _ _ _ h => h) (Or.inr ⟨by rfl, rfl⟩) hHeld ?_
    try simp only [Act.put, List.setIfInBounds_toArray, List.set_cons_zero, List.set_cons_succ]
    refine wpAnyH_take (i := 17) (oi := ({ dst := (some 20), op := (Op.pick (Operand.tmp 9) (Operand.const (Value.bool true)) (Operand.tmp 19)), type := 4, pos := "ref.go:143", after := #[{ on := 6, ground := Ground.data }, { on := 16, ground := Ground.data }], guard := none } : Oper)) (v := ?_) rfl (by kernel_rfl) (by kernel_rfl) (by kernel_rfl) (fun _ _ _ h => h) (Or.inl ⟨by rfl, ?_⟩) hHeld ?_
    rotate_left
    · intro w_ hSw; (try dsimp only at hSw); go_simp; try (with_reducible rfl)
    try simp only [Act.put, List.setIfInBounds_toArray, List.set_cons_zero, List.set_cons_succ]
    refine wpAnyH_done (by kernel_rfl) ?_ _
    have HF2 := fun (w' : World) (hp : Hp w0 w' (.blk r2 (.cells #[.int .i64 0, .int .i64 0] 30 (0, 0)) :: Rs)) => ref_fault (hp.blk (i + 1) HI.out)
    go_wp2_with (first | ((with_reducible refine gate_dst (N := 24) rfl ?_); refine ev_elem2 rfl 30 (.tmp 23) rfl g 2 rfl [.int .i64 s.err, .int .i64 s.fat] (HF2 _ HP.out) Try.underlying30 rfl (by kernel_rfl) ?_) | ((with_reducible refine gate_store (t := 30) (p := 2) rfl ?_); refine ev_store rfl 30 (.tmp 2) (.tmp 24) rfl rfl _ rfl (cells := #[.int .i64 s.err, .int .i64 s.fat]) rfl (HP.out.blk 0 rfl) (by kernel_rfl) rfl (by simp [Value.oneCell']) ?_; intro wm hg hgr; have HPn := Aside0.mk (HP.out.setB 0 rfl hgr hg); clear HP; have HP := HPn; clear HPn; clear hg hgr))
    refine bodyPost_ret (results_cell_row rfl _ _ r2 30 _ (0, 0) _ rfl (HP.out.blk 0 rfl) Try.underlying30 rfl (by kernel_rfl)) rfl ?_
    exact ⟨by rw [HE.out], Hp.drop1 HP.out⟩
  have k1 : (s.err != 0) = false := by simpa using he
  have k2 : (s.err == 0) = true := by simpa using he
  have k3 : decide (s.err = 0) = true := decide_eq_true he
  by_cases hl : s.at_ < b.length
  · have l1 : decide ((s.at_ : Int) = (b.length : Int)) = false := decide_eq_false (by omega)
    have l2 : ((s.at_ : Int) == (b.length : Int)) = false := by simpa using (show ¬ ((s.at_ : Int) = (b.length : Int)) by omega)
    have l3 : decide (s.at_ = b.length) = false := decide_eq_false (by omega)
    have l4 : (s.at_ == b.length) = false := by simpa using (show ¬ (s.at_ = b.length) by omega)
    have HE := Aside0.mk (show rEnd b s = (4, (s.at_ : Int)) from by unfold rEnd; rw [if_pos ⟨he, hl⟩])
    clear he hl
    refine held_named (S := (fun w' => w'.cell? ⟨g, 0, none⟩ = some (.slice A b.length c) ∧ w'.cell? ⟨g, 1, none⟩ = some (.int .i64 (s.at_ : Int)) ∧ w'.cell? ⟨g, 2, none⟩ = some (.int .i64 s.err))) (by kernel_rfl) (fun wd1 hwd1 => ?_)
    have HPn := Aside0.mk (HP.out.drewN 1)
    rw [← World.drew_is_drewN, hwd1] at HPn
    clear HP hwd1
    have HP := HPn
    clear HPn
    refine ⟨by (try dsimp only); exact ⟨blk_cell (HP.out.blk (i + 1) HI.out) 0, blk_cell (HP.out.blk (i + 1) HI.out) 1, blk_cell (HP.out.blk (i + 1) HI.out) 2⟩, fun hHeld => ?_⟩
    refine wpAnyH_take (i := 0) (oi := ({ dst := (some 3), op := (Op.move (Operand.tmp 0)), type := 67, pos := "ref.go:143", after := #[], guard := none } : Oper)) (v := ?_) rfl (by kernel_rfl) (by kernel_rfl) (by kernel_rfl) (fun _ _ _ h => h) (Or.inl ⟨by rfl, ?_⟩) hHeld ?_
    rotate_left
    · intro w_ hSw; (try dsimp only at hSw); go_simp; try (with_reducible rfl)
    try simp only [Act.put, List.setIfInBounds_toArray, List.set_cons_zero, List.set_cons_succ]
    refine wpAnyH_take (i := 1) (oi := ({ dst := (some 4), op := (Op.nilCheck (Operand.tmp 3)), type := 0, pos := "ref.go:143", after := #[{ on := 0, ground := Ground.data }], guard := none } : Oper)) (v := ?_) rfl (by kernel_rfl) (by kernel_rfl) (by kernel_rfl) (fun _ _ _ h => h) (Or.inl ⟨by rfl, ?_⟩) hHeld ?_
    rotate_left
    · intro w_ hSw; (try dsimp only at hSw); go_simp; try (with_reducible rfl)
    try simp only [Act.put, List.setIfInBounds_toArray, List.set_cons_zero, List.set_cons_succ]
    refine wpAnyH_take (i := 2) (oi := ({ dst := (some 5), op := (Op.fieldAddr 99 (Operand.tmp 4) 2), type := 0, pos := "ref.go:143", after := #[{ on := 1, ground := Ground.data }], guard := none } : Oper)) (v := ?_) rfl (by kernel_rfl) (by kernel_rfl) (by kernel_rfl) (fun _ _ _ h => h) (Or.inl ⟨by rfl, ?_⟩) hHeld ?_
    rotate_left
    · intro w_ hSw; (try dsimp only at hSw); go_simp; try (with_reducible rfl)
    try simp only [Act.put, List.setIfInBounds_toArray, List.set_cons_zero, List.set_cons_succ]
    refine wpAnyH_take (i := 3) (oi := ({ dst := (some 6), op := (Op.fieldAddr 30 (Operand.tmp 5) 0), type := 0, pos := "ref.go:143", after := #[{ on := 2, ground := Ground.data }], guard := none } : Oper)) (v := ?_) rfl (by kernel_rfl) (by kernel_rfl) (by kernel_rfl) (fun _ _ _ h => h) (Or.inl ⟨by rfl, ?_⟩) hHeld ?_
    rotate_left
    · intro w_ hSw; (try dsimp only at hSw); go_simp; try (with_reducible rfl)
    try simp only [Act.put, List.setIfInBounds_toArray, List.set_cons_zero, List.set_cons_succ]
    refine wpAnyH_take (i := 4) (oi := ({ dst := (some 7), op := (Op.load 28 (Operand.tmp 6)), type := 28, pos := "ref.go:143", after := #[{ on := 3, ground := Ground.data }], guard := none } : Oper)) (v := ?_) rfl (by kernel_rfl) (by kernel_rfl) (by kernel_rfl) (fun _ _ _ h => h) (Or.inl ⟨by rfl, ?_⟩) hHeld ?_
    rotate_left
    · intro w_ hSw; (try dsimp only at hSw); go_simp; try (with_reducible rfl)
    try simp only [Act.put, List.setIfInBounds_toArray, List.set_cons_zero, List.set_cons_succ]
    refine wpAnyH_take (i := 5) (oi := ({ dst := (some 8), op := (Op.binOp BinOp.neq 28 (Operand.tmp 7) (Operand.const (Value.int IntKind.i64 0)) 28), type := 4, pos := "ref.go:143", after := #[{ on := 4, ground := Ground.data }], guard := none } : Oper)) (v := ?_) rfl (by kernel_rfl) (by kernel_rfl) (by kernel_rfl) (fun _ _ _ h => h) (Or.inl ⟨by rfl, ?_⟩) hHeld ?_
    rotate_left
    · intro w_ hSw; (try dsimp only at hSw); go_simp; try (with_reducible rfl)
    try simp only [Act.put, List.setIfInBounds_toArray, List.set_cons_zero, List.set_cons_succ]
    refine wpAnyH_take (i := 6) (oi := ({ dst := (some 9), op := (Op.move (Operand.tmp 8)), type := 4, pos := "ref.go:143", after := #[{ on := 5, ground := Ground.data }], guard := none } : Oper)) (v := ?_) rfl (by kernel_rfl) (by kernel_rfl) (by kernel_rfl) (fun _ _ _ h => h) (Or.inl ⟨by rfl, ?_⟩) hHeld ?_
    rotate_left
    · intro w_ hSw; (try dsimp only at hSw); go_simp; try (with_reducible rfl)
    try simp only [Act.put, List.setIfInBounds_toArray, List.set_cons_zero, List.set_cons_succ]
    refine wpAnyH_take (i := 7) (oi := ({ dst := (some 10), op := (Op.move (Operand.tmp 0)), type := 67, pos := "ref.go:143", after := #[{ on := 6, ground := Ground.guard }], guard := (some (6, false)) } : Oper)) (v := ?_) rfl (by kernel_rfl) (by kernel_rfl) (by kernel_rfl) (fun _ _ _ h => h) (Or.inl ⟨by rfl, ?_⟩) hHeld ?_
    rotate_left
    · intro w_ hSw; (try dsimp only at hSw); go_simp; try (with_reducible rfl)
    try simp only [Act.put, List.setIfInBounds_toArray, List.set_cons_zero, List.set_cons_succ]
    refine wpAnyH_take (i := 8) (oi := ({ dst := (some 11), op := (Op.nilCheck (Operand.tmp 10)), type := 0, pos := "ref.go:143", after := #[{ on := 7, ground := Ground.data }, { on := 6, ground := Ground.guard }], guard := (some (6, false)) } : Oper)) (v := ?_) rfl (by kernel_rfl) (by kernel_rfl) (by kernel_rfl) (fun _ _ _ h => h) (Or.inl ⟨by rfl, ?_⟩) hHeld ?_
    rotate_left
    · intro w_ hSw; (try dsimp only at hSw); go_simp; try (with_reducible rfl)
    try simp only [Act.put, List.setIfInBounds_toArray, List.set_cons_zero, List.set_cons_succ]
    refine wpAnyH_take (i := 9) (oi := ({ dst := (some 12), op := (Op.fieldAddr 99 (Operand.tmp 11) 1), type := 0, pos := "ref.go:143", after := #[{ on := 8, ground := Ground.data }, { on := 6, ground := Ground.guard }], guard := (some (6, false)) } : Oper)) (v := ?_) rfl (by kernel_rfl) (by kernel_rfl) (by kernel_rfl) (fun _ _ _ h => h) (Or.inl ⟨by rfl, ?_⟩) hHeld ?_
    rotate_left
    · intro w_ hSw; (try dsimp only at hSw); go_simp; try (with_reducible rfl)
    try simp only [Act.put, List.setIfInBounds_toArray, List.set_cons_zero, List.set_cons_succ]
    refine wpAnyH_take (i := 10) (oi := ({ dst := (some 13), op := (Op.load 3 (Operand.tmp 12)), type := 3, pos := "ref.go:143", after := #[{ on := 9, ground := Ground.data }, { on := 6, ground := Ground.guard }], guard := (some (6, false)) } : Oper)) (v := ?_) rfl (by kernel_rfl) (by kernel_rfl) (by kernel_rfl) (fun _ _ _ h => h) (Or.inl ⟨by rfl, ?_⟩) hHeld ?_
    rotate_left
    · intro w_ hSw; (try dsimp only at hSw); go_simp; try (with_reducible rfl)
    try simp only [Act.put, List.setIfInBounds_toArray, List.set_cons_zero, List.set_cons_succ]
    refine wpAnyH_take (i := 11) (oi := ({ dst := (some 14), op := (Op.move (Operand.tmp 0)), type := 67, pos := "ref.go:143", after := #[{ on := 6, ground := Ground.guard }], guard := (some (6, false)) } : Oper)) (v := ?_) rfl (by kernel_rfl) (by kernel_rfl) (by kernel_rfl) (fun _ _ _ h => h) (Or.inl ⟨by rfl, ?_⟩) hHeld ?_
    rotate_left
    · intro w_ hSw; (try dsimp only at hSw); go_simp; try (with_reducible rfl)
    try simp only [Act.put, List.setIfInBounds_toArray, List.set_cons_zero, List.set_cons_succ]
    refine wpAnyH_take (i := 12) (oi := ({ dst := (some 15), op := (Op.nilCheck (Operand.tmp 14)), type := 0, pos := "ref.go:143", after := #[{ on := 11, ground := Ground.data }, { on := 6, ground := Ground.guard }], guard := (some (6, false)) } : Oper)) (v := ?_) rfl (by kernel_rfl) (by kernel_rfl) (by kernel_rfl) (fun _ _ _ h => h) (Or.inl ⟨by rfl, ?_⟩) hHeld ?_
    rotate_left
    · intro w_ hSw; (try dsimp only at hSw); go_simp; try (with_reducible rfl)
    try simp only [Act.put, List.setIfInBounds_toArray, List.set_cons_zero, List.set_cons_succ]
    refine wpAnyH_take (i := 13) (oi := ({ dst := (some 16), op := (Op.fieldAddr 99 (Operand.tmp 15) 0), type := 0, pos := "ref.go:143", after := #[{ on := 12, ground := Ground.data }, { on := 6, ground := Ground.guard }], guard := (some (6, false)) } : Oper)) (v := ?_) rfl (by kernel_rfl) (by kernel_rfl) (by kernel_rfl) (fun _ _ _ h => h) (Or.inl ⟨by rfl, ?_⟩) hHeld ?_
    rotate_left
    · intro w_ hSw; (try dsimp only at hSw); go_simp; try (with_reducible rfl)
    try simp only [Act.put, List.setIfInBounds_toArray, List.set_cons_zero, List.set_cons_succ]
    refine wpAnyH_take (i := 14) (oi := ({ dst := (some 17), op := (Op.load 22 (Operand.tmp 16)), type := 22, pos := "ref.go:143", after := #[{ on := 13, ground := Ground.data }, { on := 6, ground := Ground.guard }], guard := (some (6, false)) } : Oper)) (v := ?_) rfl (by kernel_rfl) (by kernel_rfl) (by kernel_rfl) (fun _ _ _ h => h) (Or.inl ⟨by rfl, ?_⟩) hHeld ?_
    rotate_left
    · intro w_ hSw; (try dsimp only at hSw); go_simp; try (with_reducible rfl)
    try simp only [Act.put, List.setIfInBounds_toArray, List.set_cons_zero, List.set_cons_succ]
    refine wpAnyH_take (i := 15) (oi := ({ dst := (some 18), op := (Op.call { callee := (Callee.builtin Builtin.len), args := #[(Operand.tmp 17)], argTypes := #[22] }), type := 3, pos := "ref.go:143", after := #[{ on := 14, ground := Ground.data }, { on := 6, ground := Ground.guard }], guard := (some (6, false)) } : Oper)) (v := ?_) rfl (by kernel_rfl) (by kernel_rfl) (by kernel_rfl) (fun _ _ _ h => h) (Or.inl ⟨by rfl, ?_⟩) hHeld ?_
    rotate_left
    · intro w_ hSw; (try dsimp only at hSw); go_simp; try (with_reducible rfl)
    try simp only [Act.put, List.setIfInBounds_toArray, List.set_cons_zero, List.set_cons_succ]
    refine wpAnyH_take (i := 16) (oi := ({ dst := (some 19), op := (Op.binOp BinOp.eql 3 (Operand.tmp 13) (Operand.tmp 18) 3), type := 4, pos := "ref.go:143", after := #[{ on := 10, ground := Ground.data }, { on := 15, ground := Ground.data }, { on := 6, ground := Ground.guard }], guard := (some (6, false)) } : Oper)) (v := ?_) rfl (by kernel_rfl) (by kernel_rfl) (by kernel_rfl) (fun _ _ _ h => h) (Or.inl ⟨by rfl, ?_⟩) hHeld ?_
    rotate_left
    · intro w_ hSw; (try dsimp only at hSw); go_simp; try (with_reducible rfl)
    try simp only [Act.put, List.setIfInBounds_toArray, List.set_cons_zero, List.set_cons_succ]
    refine wpAnyH_take (i := 17) (oi := ({ dst := (some 20), op := (Op.pick (Operand.tmp 9) (Operand.const (Value.bool true)) (Operand.tmp 19)), type := 4, pos := "ref.go:143", after := #[{ on := 6, ground := Ground.data }, { on := 16, ground := Ground.data }], guard := none } : Oper)) (v := ?_) rfl (by kernel_rfl) (by kernel_rfl) (by kernel_rfl) (fun _ _ _ h => h) (Or.inl ⟨by rfl, ?_⟩) hHeld ?_
    rotate_left
    · intro w_ hSw; (try dsimp only at hSw); go_simp; try (with_reducible rfl)
    try simp only [Act.put, List.setIfInBounds_toArray, List.set_cons_zero, List.set_cons_succ]
    refine wpAnyH_done (by kernel_rfl) ?_ _
    have c1 : wd1.cell? ⟨g, 1, none⟩ = some (.int .i64 (s.at_ : Int)) := blk_cell (HP.out.blk (i + 1) HI.out) 1
    go_wp2_with (first | ((with_reducible refine gate_store (t := 30) (p := 2) rfl ?_); refine ev_store rfl 30 (.tmp 2) (.tmp 29) rfl rfl _ rfl (cells := #[.int .i64 4, .int .i64 (s.at_ : Int)]) rfl (HP.out.blk 0 rfl) (by kernel_rfl) rfl (by simp [Value.oneCell']) ?_; intro wm hg hgr; have HPn := Aside0.mk (HP.out.setB 0 rfl hgr hg); clear HP; have HP := HPn; clear HPn; clear hg hgr))
    refine bodyPost_ret (results_cell_row rfl _ _ r2 30 _ (0, 0) _ rfl (HP.out.blk 0 rfl) Try.underlying30 rfl (by kernel_rfl)) rfl ?_
    exact ⟨by rw [HE.out], Hp.drop1 HP.out⟩
  · have l1 : decide ((s.at_ : Int) = (b.length : Int)) = true := decide_eq_true (by have := HA.out; omega)
    have l2 : ((s.at_ : Int) == (b.length : Int)) = true := by simpa using (show (s.at_ : Int) = (b.length : Int) by have := HA.out; omega)
    have l3 : decide (s.at_ = b.length) = true := decide_eq_true (by have := HA.out; omega)
    have l4 : (s.at_ == b.length) = true := by simpa using (show s.at_ = b.length by have := HA.out; omega)
    have HE := Aside0.mk (show rEnd b s = (s.err, s.fat) from by unfold rEnd; rw [if_neg (fun h => hl h.2)])
    clear he hl
    refine held_named (S := (fun w' => w'.cell? ⟨g, 0, none⟩ = some (.slice A b.length c) ∧ w'.cell? ⟨g, 1, none⟩ = some (.int .i64 (s.at_ : Int)) ∧ w'.cell? ⟨g, 2, none⟩ = some (.int .i64 s.err))) (by kernel_rfl) (fun wd1 hwd1 => ?_)
    have HPn := Aside0.mk (HP.out.drewN 1)
    rw [← World.drew_is_drewN, hwd1] at HPn
    clear HP hwd1
    have HP := HPn
    clear HPn
    refine ⟨by (try dsimp only); exact ⟨blk_cell (HP.out.blk (i + 1) HI.out) 0, blk_cell (HP.out.blk (i + 1) HI.out) 1, blk_cell (HP.out.blk (i + 1) HI.out) 2⟩, fun hHeld => ?_⟩
    refine wpAnyH_take (i := 0) (oi := ({ dst := (some 3), op := (Op.move (Operand.tmp 0)), type := 67, pos := "ref.go:143", after := #[], guard := none } : Oper)) (v := ?_) rfl (by kernel_rfl) (by kernel_rfl) (by kernel_rfl) (fun _ _ _ h => h) (Or.inl ⟨by rfl, ?_⟩) hHeld ?_
    rotate_left
    · intro w_ hSw; (try dsimp only at hSw); go_simp; try (with_reducible rfl)
    try simp only [Act.put, List.setIfInBounds_toArray, List.set_cons_zero, List.set_cons_succ]
    refine wpAnyH_take (i := 1) (oi := ({ dst := (some 4), op := (Op.nilCheck (Operand.tmp 3)), type := 0, pos := "ref.go:143", after := #[{ on := 0, ground := Ground.data }], guard := none } : Oper)) (v := ?_) rfl (by kernel_rfl) (by kernel_rfl) (by kernel_rfl) (fun _ _ _ h => h) (Or.inl ⟨by rfl, ?_⟩) hHeld ?_
    rotate_left
    · intro w_ hSw; (try dsimp only at hSw); go_simp; try (with_reducible rfl)
    try simp only [Act.put, List.setIfInBounds_toArray, List.set_cons_zero, List.set_cons_succ]
    refine wpAnyH_take (i := 2) (oi := ({ dst := (some 5), op := (Op.fieldAddr 99 (Operand.tmp 4) 2), type := 0, pos := "ref.go:143", after := #[{ on := 1, ground := Ground.data }], guard := none } : Oper)) (v := ?_) rfl (by kernel_rfl) (by kernel_rfl) (by kernel_rfl) (fun _ _ _ h => h) (Or.inl ⟨by rfl, ?_⟩) hHeld ?_
    rotate_left
    · intro w_ hSw; (try dsimp only at hSw); go_simp; try (with_reducible rfl)
    try simp only [Act.put, List.setIfInBounds_toArray, List.set_cons_zero, List.set_cons_succ]
    refine wpAnyH_take (i := 3) (oi := ({ dst := (some 6), op := (Op.fieldAddr 30 (Operand.tmp 5) 0), type := 0, pos := "ref.go:143", after := #[{ on := 2, ground := Ground.data }], guard := none } : Oper)) (v := ?_) rfl (by kernel_rfl) (by kernel_rfl) (by kernel_rfl) (fun _ _ _ h => h) (Or.inl ⟨by rfl, ?_⟩) hHeld ?_
    rotate_left
    · intro w_ hSw; (try dsimp only at hSw); go_simp; try (with_reducible rfl)
    try simp only [Act.put, List.setIfInBounds_toArray, List.set_cons_zero, List.set_cons_succ]
    refine wpAnyH_take (i := 4) (oi := ({ dst := (some 7), op := (Op.load 28 (Operand.tmp 6)), type := 28, pos := "ref.go:143", after := #[{ on := 3, ground := Ground.data }], guard := none } : Oper)) (v := ?_) rfl (by kernel_rfl) (by kernel_rfl) (by kernel_rfl) (fun _ _ _ h => h) (Or.inl ⟨by rfl, ?_⟩) hHeld ?_
    rotate_left
    · intro w_ hSw; (try dsimp only at hSw); go_simp; try (with_reducible rfl)
    try simp only [Act.put, List.setIfInBounds_toArray, List.set_cons_zero, List.set_cons_succ]
    refine wpAnyH_take (i := 5) (oi := ({ dst := (some 8), op := (Op.binOp BinOp.neq 28 (Operand.tmp 7) (Operand.const (Value.int IntKind.i64 0)) 28), type := 4, pos := "ref.go:143", after := #[{ on := 4, ground := Ground.data }], guard := none } : Oper)) (v := ?_) rfl (by kernel_rfl) (by kernel_rfl) (by kernel_rfl) (fun _ _ _ h => h) (Or.inl ⟨by rfl, ?_⟩) hHeld ?_
    rotate_left
    · intro w_ hSw; (try dsimp only at hSw); go_simp; try (with_reducible rfl)
    try simp only [Act.put, List.setIfInBounds_toArray, List.set_cons_zero, List.set_cons_succ]
    refine wpAnyH_take (i := 6) (oi := ({ dst := (some 9), op := (Op.move (Operand.tmp 8)), type := 4, pos := "ref.go:143", after := #[{ on := 5, ground := Ground.data }], guard := none } : Oper)) (v := ?_) rfl (by kernel_rfl) (by kernel_rfl) (by kernel_rfl) (fun _ _ _ h => h) (Or.inl ⟨by rfl, ?_⟩) hHeld ?_
    rotate_left
    · intro w_ hSw; (try dsimp only at hSw); go_simp; try (with_reducible rfl)
    try simp only [Act.put, List.setIfInBounds_toArray, List.set_cons_zero, List.set_cons_succ]
    refine wpAnyH_take (i := 7) (oi := ({ dst := (some 10), op := (Op.move (Operand.tmp 0)), type := 67, pos := "ref.go:143", after := #[{ on := 6, ground := Ground.guard }], guard := (some (6, false)) } : Oper)) (v := ?_) rfl (by kernel_rfl) (by kernel_rfl) (by kernel_rfl) (fun _ _ _ h => h) (Or.inl ⟨by rfl, ?_⟩) hHeld ?_
    rotate_left
    · intro w_ hSw; (try dsimp only at hSw); go_simp; try (with_reducible rfl)
    try simp only [Act.put, List.setIfInBounds_toArray, List.set_cons_zero, List.set_cons_succ]
    refine wpAnyH_take (i := 8) (oi := ({ dst := (some 11), op := (Op.nilCheck (Operand.tmp 10)), type := 0, pos := "ref.go:143", after := #[{ on := 7, ground := Ground.data }, { on := 6, ground := Ground.guard }], guard := (some (6, false)) } : Oper)) (v := ?_) rfl (by kernel_rfl) (by kernel_rfl) (by kernel_rfl) (fun _ _ _ h => h) (Or.inl ⟨by rfl, ?_⟩) hHeld ?_
    rotate_left
    · intro w_ hSw; (try dsimp only at hSw); go_simp; try (with_reducible rfl)
    try simp only [Act.put, List.setIfInBounds_toArray, List.set_cons_zero, List.set_cons_succ]
    refine wpAnyH_take (i := 9) (oi := ({ dst := (some 12), op := (Op.fieldAddr 99 (Operand.tmp 11) 1), type := 0, pos := "ref.go:143", after := #[{ on := 8, ground := Ground.data }, { on := 6, ground := Ground.guard }], guard := (some (6, false)) } : Oper)) (v := ?_) rfl (by kernel_rfl) (by kernel_rfl) (by kernel_rfl) (fun _ _ _ h => h) (Or.inl ⟨by rfl, ?_⟩) hHeld ?_
    rotate_left
    · intro w_ hSw; (try dsimp only at hSw); go_simp; try (with_reducible rfl)
    try simp only [Act.put, List.setIfInBounds_toArray, List.set_cons_zero, List.set_cons_succ]
    refine wpAnyH_take (i := 10) (oi := ({ dst := (some 13), op := (Op.load 3 (Operand.tmp 12)), type := 3, pos := "ref.go:143", after := #[{ on := 9, ground := Ground.data }, { on := 6, ground := Ground.guard }], guard := (some (6, false)) } : Oper)) (v := ?_) rfl (by kernel_rfl) (by kernel_rfl) (by kernel_rfl) (fun _ _ _ h => h) (Or.inl ⟨by rfl, ?_⟩) hHeld ?_
    rotate_left
    · intro w_ hSw; (try dsimp only at hSw); go_simp; try (with_reducible rfl)
    try simp only [Act.put, List.setIfInBounds_toArray, List.set_cons_zero, List.set_cons_succ]
    refine wpAnyH_take (i := 11) (oi := ({ dst := (some 14), op := (Op.move (Operand.tmp 0)), type := 67, pos := "ref.go:143", after := #[{ on := 6, ground := Ground.guard }], guard := (some (6, false)) } : Oper)) (v := ?_) rfl (by kernel_rfl) (by kernel_rfl) (by kernel_rfl) (fun _ _ _ h => h) (Or.inl ⟨by rfl, ?_⟩) hHeld ?_
    rotate_left
    · intro w_ hSw; (try dsimp only at hSw); go_simp; try (with_reducible rfl)
    try simp only [Act.put, List.setIfInBounds_toArray, List.set_cons_zero, List.set_cons_succ]
    refine wpAnyH_take (i := 12) (oi := ({ dst := (some 15), op := (Op.nilCheck (Operand.tmp 14)), type := 0, pos := "ref.go:143", after := #[{ on := 11, ground := Ground.data }, { on := 6, ground := Ground.guard }], guard := (some (6, false)) } : Oper)) (v := ?_) rfl (by kernel_rfl) (by kernel_rfl) (by kernel_rfl) (fun _ _ _ h => h) (Or.inl ⟨by rfl, ?_⟩) hHeld ?_
    rotate_left
    · intro w_ hSw; (try dsimp only at hSw); go_simp; try (with_reducible rfl)
    try simp only [Act.put, List.setIfInBounds_toArray, List.set_cons_zero, List.set_cons_succ]
    refine wpAnyH_take (i := 13) (oi := ({ dst := (some 16), op := (Op.fieldAddr 99 (Operand.tmp 15) 0), type := 0, pos := "ref.go:143", after := #[{ on := 12, ground := Ground.data }, { on := 6, ground := Ground.guard }], guard := (some (6, false)) } : Oper)) (v := ?_) rfl (by kernel_rfl) (by kernel_rfl) (by kernel_rfl) (fun _ _ _ h => h) (Or.inl ⟨by rfl, ?_⟩) hHeld ?_
    rotate_left
    · intro w_ hSw; (try dsimp only at hSw); go_simp; try (with_reducible rfl)
    try simp only [Act.put, List.setIfInBounds_toArray, List.set_cons_zero, List.set_cons_succ]
    refine wpAnyH_take (i := 14) (oi := ({ dst := (some 17), op := (Op.load 22 (Operand.tmp 16)), type := 22, pos := "ref.go:143", after := #[{ on := 13, ground := Ground.data }, { on := 6, ground := Ground.guard }], guard := (some (6, false)) } : Oper)) (v := ?_) rfl (by kernel_rfl) (by kernel_rfl) (by kernel_rfl) (fun _ _ _ h => h) (Or.inl ⟨by rfl, ?_⟩) hHeld ?_
    rotate_left
    · intro w_ hSw; (try dsimp only at hSw); go_simp; try (with_reducible rfl)
    try simp only [Act.put, List.setIfInBounds_toArray, List.set_cons_zero, List.set_cons_succ]
    refine wpAnyH_take (i := 15) (oi := ({ dst := (some 18), op := (Op.call { callee := (Callee.builtin Builtin.len), args := #[(Operand.tmp 17)], argTypes := #[22] }), type := 3, pos := "ref.go:143", after := #[{ on := 14, ground := Ground.data }, { on := 6, ground := Ground.guard }], guard := (some (6, false)) } : Oper)) (v := ?_) rfl (by kernel_rfl) (by kernel_rfl) (by kernel_rfl) (fun _ _ _ h => h) (Or.inl ⟨by rfl, ?_⟩) hHeld ?_
    rotate_left
    · intro w_ hSw; (try dsimp only at hSw); go_simp; try (with_reducible rfl)
    try simp only [Act.put, List.setIfInBounds_toArray, List.set_cons_zero, List.set_cons_succ]
    refine wpAnyH_take (i := 16) (oi := ({ dst := (some 19), op := (Op.binOp BinOp.eql 3 (Operand.tmp 13) (Operand.tmp 18) 3), type := 4, pos := "ref.go:143", after := #[{ on := 10, ground := Ground.data }, { on := 15, ground := Ground.data }, { on := 6, ground := Ground.guard }], guard := (some (6, false)) } : Oper)) (v := ?_) rfl (by kernel_rfl) (by kernel_rfl) (by kernel_rfl) (fun _ _ _ h => h) (Or.inl ⟨by rfl, ?_⟩) hHeld ?_
    rotate_left
    · intro w_ hSw; (try dsimp only at hSw); go_simp; try (with_reducible rfl)
    try simp only [Act.put, List.setIfInBounds_toArray, List.set_cons_zero, List.set_cons_succ]
    refine wpAnyH_take (i := 17) (oi := ({ dst := (some 20), op := (Op.pick (Operand.tmp 9) (Operand.const (Value.bool true)) (Operand.tmp 19)), type := 4, pos := "ref.go:143", after := #[{ on := 6, ground := Ground.data }, { on := 16, ground := Ground.data }], guard := none } : Oper)) (v := ?_) rfl (by kernel_rfl) (by kernel_rfl) (by kernel_rfl) (fun _ _ _ h => h) (Or.inl ⟨by rfl, ?_⟩) hHeld ?_
    rotate_left
    · intro w_ hSw; (try dsimp only at hSw); go_simp; try (with_reducible rfl)
    try simp only [Act.put, List.setIfInBounds_toArray, List.set_cons_zero, List.set_cons_succ]
    refine wpAnyH_done (by kernel_rfl) ?_ _
    have HF2 := fun (w' : World) (hp : Hp w0 w' (.blk r2 (.cells #[.int .i64 0, .int .i64 0] 30 (0, 0)) :: Rs)) => ref_fault (hp.blk (i + 1) HI.out)
    go_wp2_with (first | ((with_reducible refine gate_dst (N := 24) rfl ?_); refine ev_elem2 rfl 30 (.tmp 23) rfl g 2 rfl [.int .i64 s.err, .int .i64 s.fat] (HF2 _ HP.out) Try.underlying30 rfl (by kernel_rfl) ?_) | ((with_reducible refine gate_store (t := 30) (p := 2) rfl ?_); refine ev_store rfl 30 (.tmp 2) (.tmp 24) rfl rfl _ rfl (cells := #[.int .i64 s.err, .int .i64 s.fat]) rfl (HP.out.blk 0 rfl) (by kernel_rfl) rfl (by simp [Value.oneCell']) ?_; intro wm hg hgr; have HPn := Aside0.mk (HP.out.setB 0 rfl hgr hg); clear HP; have HP := HPn; clear HPn; clear hg hgr))
    refine bodyPost_ret (results_cell_row rfl _ _ r2 30 _ (0, 0) _ rfl (HP.out.blk 0 rfl) Try.underlying30 rfl (by kernel_rfl)) rfl ?_
    exact ⟨by rw [HE.out], Hp.drop1 HP.out⟩
end Go.Proofs.Ytlgnfbgjdkbfoaa.Rf
namespace Go.Proofs.Ytlgnfbgjdkbfoaa.Rf
open Go.RowKit Go.Proofs.Ytlgnfbgjdkbfoaa.Wd Go.Proofs.YtlgnfbgjdkbfoaaW.PrintWords Go.Proofs.YtlgnfbgjdkbfoaaW.PrintLast Go.Proofs.YtlgnfbgjdkbfoaaW.PrintMore Go.Proofs.YtlgnfbgjdkbfoaaXe Go.Proofs.YtlgnfbgjdkbfoaaXs
set_option linter.unusedVariables false
set_option linter.unusedSimpArgs false
attribute [local go_sem ↓] Go.wp_at_zero Go.wp_at_succ
/-- so many bytes behind the next k -/
def passR (b : List Int) (s : RS) (k n : Nat) : List Int × RS :=
  if s.err ≠ 0 then ([], s) else if b.length < s.at_ + k + n then ([], { s with err := 4, fat := (b.length : Int) }) else ((b.take (s.at_ + k + n)).drop (s.at_ + k), { s with at_ := s.at_ + k + n })
theorem mid8 (A : Option Addr) (c : Nat) (b : List Int) (lo hi : Nat) (h : lo ≤ hi) (h2 : hi ≤ b.length) (hc : b.length ≤ c) (hl hh : Int) (el : hl = (lo : Int)) (eh : hh = (hi : Int)) : ∃ A' m, (b.take hi).drop lo = m ∧ m.length = hi - lo ∧ m.length ≤ c - lo ∧ (∀ w : World, (Instr.slice 22 (.slice A b.length c) (some (.int .i64 hl)) (some (.int .i64 hh)) none).run Try.prog w = .ok (.slice A' m.length (c - lo)) w) ∧ (∀ w : World, Kd.C (Kd.int .u8) w A b.length b → Kd.C (Kd.int .u8) w A' m.length m) := by
  obtain ⟨i, hi1, hs⟩ : ∃ i, Try.prog.info? 5 = some i ∧ i.size = 1 := by
    have h : (Try.prog.info? 5).map (·.size) = some 1 := by kernel_rfl
    obtain ⟨i, h1, h2⟩ := Option.map_eq_some_iff.1 h
    exact ⟨i, h1, h2⟩
  subst el eh
  have hm : ((b.take hi).drop lo).length = hi - lo := by rw [List.length_drop, List.length_take]; omega
  refine ⟨if c = lo then A else A.map (·.add (lo * 1)), _, rfl, hm, by rw [hm]; omega, fun w => ?_, fun w hC => Kd.C_mid hC h h2 hc⟩
  rw [cut_mid 22 5 .i64 .i64 Try.underlying22 hi1 1 hs A b.length c lo hi (by omega) (by omega) (by omega) hc w, hm]
  simp only [Int.toNat_natCast]
theorem nil8 (w : World) : (Kd.int .u8).C w none 0 [] := (Kd.R_reads' (Kd.R_nil (Kd.int .u8) 5 w 0 (fun _ => True))).2.2
theorem scan_or {b : List Int} {a : Nat} {low high : Int} {x y : Int} (h : numP b a low high 3 = .error (x, y)) : x ≠ 0 := by
  have scan : ∀ (d k a2 : Nat) (acc : Int) (e : Int × Int), scanN b a d k a2 acc = .error e → e.1 ≠ 0 := by
    intro d
    induction d with
    | zero =>
      intro k a2 acc e h
      simp only [scanN, Except.error.injEq] at h
      subst h
      simp
    | succ d ih =>
      intro k a2 acc e h
      rw [scanN] at h
      cases hb : b[a2]? with
      | none =>
        rw [hb] at h
        simp only [Except.error.injEq] at h
        subst h
        simp
      | some c =>
        rw [hb] at h
        simp only at h
        split at h
        · split at h
          · simp only [Except.error.injEq] at h
            subst h
            simp
          · simp at h
        · split at h
          · simp only [Except.error.injEq] at h
            subst h
            simp
          · exact ih _ _ _ e h
  unfold numP at h
  split at h
  · simp only [Except.error.injEq] at h
    have := scan _ _ _ _ _ (by assumption)
    rw [h] at this
    exact this
  · split at h
    · simp at h
      omega
    · split at h
      · simp at h
        omega
      · simp at h
theorem rTxt_peek {b : List Int} {s : RS} {most : Int} (hB : ∀ x ∈ b, 0 ≤ x ∧ x < 256) : rTxt b s most = passR b (peekR b s 0 most 3).2 (peekR b s 0 most 3).1.2.toNat (peekR b s 0 most 3).1.1.toNat := by
  unfold rTxt txtP peekR passR
  by_cases h : s.err ≠ 0
  · rw [if_pos h, if_pos h]
    simp only
    rw [if_pos h]
  · rw [if_neg h, if_neg h]
    cases hn : numP b s.at_ 0 most 3 with
    | ok p =>
      obtain ⟨n, a'⟩ := p
      have := num_dec hB hn
      simp only
      rw [if_neg h, show s.at_ + ((a' : Int) - (s.at_ : Int)).toNat = a' by omega]
      by_cases hl : b.length < a' + n.toNat
      · rw [if_pos hl, if_pos hl]
      · rw [if_neg hl, if_neg hl]
    | error p =>
      obtain ⟨x, y⟩ := p
      have := scan_or hn
      simp only
      rw [if_pos this]
theorem rId_pass {b : List Int} {s : RS} : rId b s = ((if (passR b s 0 32).1 = [] then z32 else (passR b s 0 32).1), (passR b s 0 32).2) := by
  by_cases h : s.err ≠ 0
  · have hp : passR b s 0 32 = ([], s) := by unfold passR; rw [if_pos h]
    unfold rId
    rw [if_pos h, hp]
    rfl
  · by_cases hl : b.length < s.at_ + 32
    · have hp : passR b s 0 32 = ([], { s with err := 4, fat := (b.length : Int) }) := by unfold passR; rw [if_neg h, if_pos (by omega)]
      unfold rId idP
      rw [if_neg h, if_pos hl, hp]
      rfl
    · have hp : passR b s 0 32 = ((b.take (s.at_ + 32)).drop s.at_, { s with at_ := s.at_ + 32 }) := by unfold passR; rw [if_neg h, if_neg (by omega)]; rfl
      unfold rId idP
      rw [if_neg h, if_neg hl, hp]
      simp only
      rw [if_neg]
      intro hnil
      have := congrArg List.length hnil
      rw [List.length_drop, List.length_take, List.length_nil] at this
      omega
theorem pass_len {b : List Int} {s : RS} (k n : Nat) : (passR b s k n).1 = [] ∨ (passR b s k n).1.length = n := by
  unfold passR
  split
  · exact .inl rfl
  · split
    · exact .inl rfl
    · right
      rw [List.length_drop, List.length_take]
      omega
theorem peek_n (b : List Int) (s : RS) (low high above : Int) (h0 : low ≤ 0) (h1 : 0 ≤ high) : low ≤ (peekR b s low high above).1.1 ∧ (peekR b s low high above).1.1 ≤ high := by
  unfold peekR
  split
  · exact ⟨h0, h1⟩
  · split
    · exact numP_low (by assumption)
    · exact ⟨h0, h1⟩
set_option maxHeartbeats 8000000 in
set_option maxRecDepth 100000 in
theorem c_qpass {w0 w : World} {Rs : List Res} (HP : Hp w0 w Rs) (i g : Nat) (A : Option Addr) (c : Nat) (b : List Int) (s : RS) (hi : Rs[i]? = some (rRef g (.slice A b.length c) s)) (ha : s.at_ ≤ b.length) (hB : ∀ x ∈ b, 0 ≤ x ∧ x < 256) (hb : b.length ≤ 140737488355328) (hR : ∀ w' : World, Below w0.heap.size w0 w' → Kd.C (Kd.int .u8) w' A b.length b) (hcap : b.length ≤ c) (k n : Nat) (K N : Int) (hK : K = (k : Int)) (hN : N = (n : Int)) (hk : s.at_ + k ≤ b.length) (hn : n ≤ 140737488355328) :
    Calls Try.prog 74 #[.pointer (some ⟨g, 0, none⟩), .int .i64 K, .int .i64 N] w fun e w' => ∃ A' c', e = .returned (.slice A' (passR b s k n).1.length c') ∧ (passR b s k n).1.length ≤ c' ∧ (∀ w' : World, Below w0.heap.size w0 w' → Kd.C (Kd.int .u8) w' A' (passR b s k n).1.length (passR b s k n).1) ∧ Hp w0 w' (Rs.set i (rRef g (.slice A b.length c) (passR b s k n).2)) := by
  have HCA := Aside0.mk hcap
  have HKE := Aside0.mk hK
  have HNE := Aside0.mk hN
  have HKB := Aside0.mk hk
  have HNB := Aside0.mk hn
  have HSELF := Aside0.mk (show Rs.set i (rRef g (.slice A b.length c) s) = Rs from set_self hi)
  clear hcap hK hN hk hn
  have HPn := Aside0.mk HP
  have HI0 := Aside0.mk hi
  have HLT := Aside0.mk (List.getElem?_eq_some_iff.1 hi).1
  have HA := Aside0.mk ha
  have HB := Aside0.mk hB
  have HL := Aside0.mk hb
  have HR := Aside0.mk hR
  clear HP hi ha hB hb hR
  have HP := HPn
  clear HPn
  have c0 : w.cell? ⟨g, 0, none⟩ = some (.slice A b.length c) := blk_cell (HP.out.blk i HI0.out) 0
  have c1 : w.cell? ⟨g, 1, none⟩ = some (.int .i64 (s.at_ : Int)) := blk_cell (HP.out.blk i HI0.out) 1
  have c2 : w.cell? ⟨g, 2, none⟩ = some (.int .i64 s.err) := blk_cell (HP.out.blk i HI0.out) 2
  obtain ⟨f, hf⟩ : ∃ f, (s.at_ : Int) + K = f := ⟨_, rfl⟩
  have HFE := Aside0.mk (show f = ((s.at_ + k : Nat) : Int) from by rw [← hf, HKE.out]; push_cast; rfl)
  have e13 : IntKind.i64.wrap ((s.at_ : Int) + K) = f := by rw [hf]; exact IntWalk.i64_in _ (by have := HFE.out; have := HKB.out; have := HL.out; omega)
  clear hf
  by_cases he : s.err = 0
  case neg =>
    have k1 : (s.err != 0) = true := by simpa using he
    have k2 : (s.err == 0) = false := by simpa using he
    have k3 : decide (s.err = 0) = false := decide_eq_false he
    have HE := Aside0.mk (show passR b s k n = ([], s) from by unfold passR; rw [if_pos he])
    clear he
    go_enter Try.func74, Try.ntmps74
    go_wp2_with fail
    go_ret
    exact ⟨none, 0, by rw [HE.out]; rfl, by rw [HE.out]; exact Nat.le_refl _, fun w' hb => by rw [HE.out]; exact nil8 w', by rw [HE.out, HSELF.out]; exact HP.out⟩
  have k1 : (s.err != 0) = false := by simpa using he
  have k2 : (s.err == 0) = true := by simpa using he
  have k3 : decide (s.err = 0) = true := decide_eq_true he
  obtain ⟨u, hu⟩ : ∃ u, (b.length : Int) - f = u := ⟨_, rfl⟩
  have HU := Aside0.mk hu
  have e27 : IntKind.i64.wrap ((b.length : Int) - f) = u := by rw [← hu]; exact IntWalk.i64_in _ (by have := HFE.out; have := HKB.out; have := HL.out; omega)
  have e41 : IntKind.i64.wrap (f + N) = f + N := IntWalk.i64_in _ (by have := HFE.out; have := HKB.out; have := HL.out; have := HNE.out; have := HNB.out; omega)
  by_cases hl : b.length < s.at_ + k + n
  · have l1 : decide (u < N) = true := decide_eq_true (by have := HU.out; have := HFE.out; have := HNE.out; omega)
    have HE := Aside0.mk (show passR b s k n = ([], { s with err := 4, fat := (b.length : Int) }) from by unfold passR; rw [if_neg (by simpa using he), if_pos hl])
    clear he hl hu
    go_enter Try.func74, Try.ntmps74
    go_wp2_with (first | ((with_reducible refine gate_store (t := 30) (p := 37) rfl ?_); refine ev_store_mid HP.out i (cur := qC (.slice A b.length c) s) HI0.out rfl rfl 30 (.tmp 37) (.tmp 35) rfl rfl (cs := [.int .i64 4, .int .i64 (b.length : Int)]) rfl (Nat.le_refl 4) (by kernel_rfl) (by simp [Value.oneCell']) ?_; intro wz hpn; clear HP; have HP := Aside0.mk hpn; clear hpn; clear c0 c1 c2))
    go_ret
    exact ⟨none, 0, by rw [HE.out]; rfl, by rw [HE.out]; exact Nat.le_refl _, fun w' hb => by rw [HE.out]; exact nil8 w', by rw [HE.out]; exact HP.out⟩
  · have l1 : decide (u < N) = false := decide_eq_false (by have := HU.out; have := HFE.out; have := HNE.out; omega)
    have HE := Aside0.mk (show passR b s k n = ((b.take (s.at_ + k + n)).drop (s.at_ + k), { s with at_ := s.at_ + k + n }) from by unfold passR; rw [if_neg (by simpa using he), if_neg hl])
    have hf1 := frozC (HP.out.blk i HI0.out) 1
    obtain ⟨A', m, hm, hml, hmc, hrun, hmC⟩ := mid8 A c b (s.at_ + k) (s.at_ + k + n) (by omega) (by omega) HCA.out f (f + N) HFE.out (by rw [HFE.out, HNE.out]; push_cast; rfl)
    have HM := Aside0.mk hm
    have HMC := Aside0.mk hmC
    have HMC2 := Aside0.mk hmc
    clear he hl hu hm hml hmc hmC
    go_enter Try.func74, Try.ntmps74
    go_wp2_with fail
    have HPn := Aside0.mk (HP.out.setCell i HI0.out 1 (.int .i64 (f + N)))
    clear HP c0 c1 c2 hf1 hrun
    go_ret
    have h9 : (rRef g (.slice A b.length c) { s with at_ := s.at_ + k + n }) = .blk g (.cells ((qC (.slice A b.length c) s).toArray.setIfInBounds 1 (.int .i64 (f + N))) 99 (0, 0)) := by
      unfold rRef qC
      simp only
      rw [show (((s.at_ + k + n : Nat)) : Int) = f + N by rw [HFE.out, HNE.out]; push_cast; rfl]
      rfl
    rw [HM.out] at HE
    exact ⟨A', c - (s.at_ + k), by rw [HE.out]; rfl, by rw [HE.out]; exact HMC2.out, fun w' hb => by rw [HE.out]; exact HMC.out w' (HR.out w' hb), by rw [HE.out, h9]; exact HPn.out⟩
set_option maxHeartbeats 8000000 in
set_option maxRecDepth 100000 in
theorem c_qtext {w0 w : World} {Rs : List Res} (HP : Hp w0 w Rs) (i g : Nat) (A : Option Addr) (c : Nat) (b : List Int) (s : RS) (hi : Rs[i]? = some (rRef g (.slice A b.length c) s)) (ha : s.at_ ≤ b.length) (hB : ∀ x ∈ b, 0 ≤ x ∧ x < 256) (hb : b.length ≤ 140737488355328) (hR : ∀ w' : World, Below w0.heap.size w0 w' → Kd.C (Kd.int .u8) w' A b.length b) (hcap : b.length ≤ c) (most : Int) (hm0 : 0 ≤ most) (hmost : most ≤ 140737488355328) :
    Calls Try.prog 40 #[.pointer (some ⟨g, 0, none⟩), .int .i64 most] w fun e w' => e = .returned (.string (strOfNums (rTxt b s most).1)) ∧ Hp w0 w' (Rs.set i (rRef g (.slice A b.length c) (rTxt b s most).2)) := by
  have HCA := Aside0.mk hcap
  have HMO := Aside0.mk (And.intro hm0 hmost)
  clear hcap hm0 hmost
  have HPn := Aside0.mk HP
  have HI0 := Aside0.mk hi
  have HLT := Aside0.mk (List.getElem?_eq_some_iff.1 hi).1
  have HA := Aside0.mk ha
  have HB := Aside0.mk hB
  have HL := Aside0.mk hb
  have HR := Aside0.mk hR
  clear HP hi ha hB hb hR
  have HP := HPn
  clear HPn
  go_enter Try.func40, Try.ntmps40
  go_wp2_with fail
  refine (c_peek HP.out i g A c b s HI0.out HA.out HB.out HL.out HR.out 0 most 3).mono ?_; rintro e wa ⟨rfl, hpn⟩
  clear HP
  have HP := Aside0.mk hpn
  clear hpn
  have HT := Aside0.mk (rTxt_peek (most := most) (s := s) HB.out)
  have HK := Aside0.mk (peek_k (low := 0) (high := most) (above := 3) HB.out HA.out)
  have HN := Aside0.mk (peek_n b s 0 most 3 (Int.le_refl _) HMO.out.1)
  have HAT := Aside0.mk (peek_at b s 0 most 3)
  obtain ⟨⟨⟨n, k⟩, s1⟩, hp⟩ : ∃ p, peekR b s 0 most 3 = p := ⟨_, rfl⟩
  rw [hp] at HP HT HK HN HAT ⊢
  clear hp
  simp only at HP HT HK HN HAT ⊢
  have HI1 := Aside0.mk (show (Rs.set i (rRef g (.slice A b.length c) s1))[i]? = some (rRef g (.slice A b.length c) s1) from set_get _ HLT.out)
  go_wp2_with fail
  refine (c_qpass HP.out i g A c b s1 HI1.out (by rw [HAT.out]; exact HA.out) HB.out HL.out HR.out HCA.out k.toNat n.toNat k n (by have := HK.out; omega) (by have := HN.out; omega) (by have := HK.out; have := HAT.out; omega) (by have := HN.out; have := HMO.out; omega)).mono ?_; rintro e wb ⟨A2, c2, rfl, hcc, hC, hpn⟩
  clear HP
  have HP := Aside0.mk hpn
  have HC := Aside0.mk hC
  clear hpn hC hcc
  rw [List.set_set] at HP
  rw [← HT.out] at HP HC ⊢
  go_wp2_with (first | ((with_reducible refine gate_dst (N := 17) rfl ?_); refine ev_run (by rfl) (run_op_string (x := .tmp 16) (xs := (rTxt b s most).1) rfl rfl (HC.out _ HP.out.below)) ?_))
  go_ret
  exact ⟨rfl, HP.out⟩
end Go.Proofs.Ytlgnfbgjdkbfoaa.Rf
namespace Go.Proofs.Ytlgnfbgjdkbfoaa.Rf
open Go.RowKit Go.Proofs.Ytlgnfbgjdkbfoaa.Wd Go.Proofs.YtlgnfbgjdkbfoaaW.PrintWords Go.Proofs.YtlgnfbgjdkbfoaaW.PrintLast Go.Proofs.YtlgnfbgjdkbfoaaW.PrintMore Go.Proofs.YtlgnfbgjdkbfoaaXe Go.Proofs.YtlgnfbgjdkbfoaaXs
set_option linter.unusedVariables false
set_option linter.unusedSimpArgs false
attribute [local go_sem ↓] Go.wp_at_zero Go.wp_at_succ
theorem set_mid (m : List Int) (j : Nat) (z : Int) (hm : m[j]? = some z) (hj : j < 32) : (m.take j ++ z32.drop j).set j z = m.take (j + 1) ++ z32.drop (j + 1) := by
  have hl : (m.take j).length = j := by rw [List.length_take]; have := (List.getElem?_eq_some_iff.1 hm).1; omega
  have hz : z32.drop j = 0 :: z32.drop (j + 1) := by
    rw [List.drop_eq_getElem_cons (by simpa [z32] using hj)]
    congr 1
    exact List.getElem_replicate (n := 32) (a := (0 : Int)) _
  rw [hz, List.set_append_right _ _ (by omega), show j - (m.take j).length = 0 by omega, List.set_cons_zero, List.take_add_one, hm]
  simp
theorem id_fin {m : List Int} (h : m = [] ∨ m.length = 32) : m.take m.length ++ z32.drop m.length = if m = [] then z32 else m := by
  rcases h with rfl | h
  · rfl
  · rw [if_neg (by rintro rfl; simp at h), List.take_of_length_le (Nat.le_refl _), List.drop_of_length_le (by simp [z32, h]), List.append_nil]
theorem rId_l32 (b : List Int) (s : RS) : (rId b s).1.length = 32 := by
  unfold rId
  split
  · rfl
  · split
    · exact (idP_ok (by assumption)).1
    · rfl
set_option maxHeartbeats 8000000 in
set_option maxRecDepth 100000 in
theorem c_qid {w0 w : World} {Rs : List Res} (HP : Hp w0 w Rs) (i g : Nat) (A : Option Addr) (c : Nat) (b : List Int) (s : RS) (hi : Rs[i]? = some (rRef g (.slice A b.length c) s)) (ha : s.at_ ≤ b.length) (hB : ∀ x ∈ b, 0 ≤ x ∧ x < 256) (hb : b.length ≤ 140737488355328) (hR : ∀ w' : World, Below w0.heap.size w0 w' → Kd.C (Kd.int .u8) w' A b.length b) (hcap : b.length ≤ c) :
    Calls Try.prog 41 #[.pointer (some ⟨g, 0, none⟩)] w fun e w' => e = .returned (.agg (by8 (rId b s).1).toArray) ∧ Hp w0 w' (Rs.set i (rRef g (.slice A b.length c) (rId b s).2)) := by
  have HCA := Aside0.mk hcap
  clear hcap
  have HPn := Aside0.mk HP
  have HI0 := Aside0.mk hi
  have HLT := Aside0.mk (List.getElem?_eq_some_iff.1 hi).1
  have HA := Aside0.mk ha
  have HB := Aside0.mk hB
  have HL := Aside0.mk hb
  have HR := Aside0.mk hR
  clear HP hi ha hB hb hR
  have HP := HPn
  clear HPn
  go_enter Try.func41, Try.ntmps41
  go_wp2_with (first | ((with_reducible refine gate_dst (N := 2) rfl ?_); refine ev_alloc rfl 63 rfl (.agg (by8 z32).toArray) (by kernel_rfl) ?_; intro g2 wa hge hg hb; have HPn := Aside0.mk (HP.out.newB hb hg hge); clear HP; have HP := HPn; clear HPn; clear hge hg hb) | ((with_reducible refine gate_dst (N := 3) rfl ?_); refine ev_alloc rfl 63 rfl (.agg (by8 z32).toArray) (by kernel_rfl) ?_; intro g3 wb hge hg hb; have HPn := Aside0.mk (HP.out.newB hb hg hge); clear HP; have HP := HPn; clear HPn; clear hge hg hb))
  refine (c_qpass HP.out (i + 2) g A c b s (show (_ :: _ :: Rs)[i + 2]? = some (rRef g (.slice A b.length c) s) from HI0.out) HA.out HB.out HL.out HR.out HCA.out 0 32 0 32 rfl rfl (by have := HA.out; omega) (by decide)).mono ?_; rintro e wc ⟨A2, c2, rfl, hcc, hC, hpn⟩
  clear HP
  have HP := Aside0.mk (show Hp w0 wc (.blk g3 (.cells (by8 (z32)).toArray 63 (0, 0)) :: .blk g2 (.cells (by8 z32).toArray 63 (0, 0)) :: Rs.set i (rRef g (.slice A b.length c) (passR b s 0 32).2)) from hpn)
  have HC := Aside0.mk hC
  clear hpn hC hcc
  have HM0 := Aside0.mk (pass_len (b := b) (s := s) 0 32)
  have HID := Aside0.mk (rId_pass (b := b) (s := s))
  obtain ⟨⟨m, s1⟩, hm⟩ : ∃ p, passR b s 0 32 = p := ⟨_, rfl⟩
  rw [hm] at HP HC HM0 HID ⊢
  clear hm
  simp only at HP HC HM0 HID ⊢
  have hml : m.length ≤ 32 := by
    rcases HM0.out with h | h
    · rw [h]; simp
    · omega
  have HML := Aside0.mk hml
  clear hml
  go_wp2_with fail
  go_loopg [5] m.length (fun kq vq w' => ∃ (j : Nat) (x : Int), vq = .int .i64 x ∧ Aside0 (x = (j : Int)) ∧ Aside0 (kq + j = m.length) ∧ Aside0 (Hp w0 w' (.blk g3 (.cells (by8 (m.take j ++ z32.drop j)).toArray 63 (0, 0)) :: .blk g2 (.cells (by8 z32).toArray 63 (0, 0)) :: Rs.set i (rRef g (.slice A b.length c) s1))))
  case atStart => exact ⟨0, 0, rfl, ⟨rfl⟩, ⟨rfl⟩, HP⟩
  clear HP
  obtain ⟨j, x, rfl, HX, HK, HP⟩ := hrel
  have hx := HX.out
  by_cases c1 : j < m.length
  · have d1 : decide (x < (m.length : Int)) = true := decide_eq_true (by omega)
    have ex : IntKind.i64.wrap (x + 1) = x + 1 := IntWalk.i64_in _ (by have := HML.out; omega)
    have p0 : 0 ≤ x := by omega
    have q0 : x < (m.length : Int) := by omega
    have q1 : x < 32 := by have := HML.out; omega
    obtain ⟨z, hz⟩ : ∃ z, m[j]? = some z := ⟨_, List.getElem?_eq_getElem c1⟩
    obtain ⟨Ab, Ao, hA⟩ := C_addrK (by decide) (HC.out _ HP.out.below) (by omega)
    subst hA
    obtain ⟨cs, hcs, hra⟩ := range_K (HC.out _ HP.out.below) hz
    have hcs2 : cs = [.int .u8 z] := hcs
    subst hcs2
    have hzc : wr.cell? ⟨Ab, Ao + x.toNat, none⟩ = some (.int .u8 z) := by
      have h0 := hra 0 _ rfl
      rw [show x.toNat = j by omega]
      simpa [show (Kd.int .u8).sz = 1 from rfl] using h0
    have hll : (m.take j ++ z32.drop j).length = 32 := by rw [List.length_append, List.length_take, List.length_drop, z32_len]; have := HML.out; omega
    have hcl : wr.cell? ⟨g3, x.toNat, none⟩ = some (.int .u8 (rd (m.take j ++ z32.drop j) x)) := cellL (HP.out.blk 0 rfl) x p0 (by rw [hll]; exact q1)
    have hfz := frozC (HP.out.blk 0 rfl) x.toNat
    have HXT := Aside0.mk (show x.toNat = j by omega)
    have HZ := Aside0.mk hz
    have HCJ := Aside0.mk c1
    clear hx c1 hz hcs hra hll
    go_wp2_with fail
    have HPn := Aside0.mk (HP.out.setCell 0 rfl x.toNat (.int .u8 z))
    clear HP hcl hfz hzc
    go_roundg (gk - 1)
    case measure => have := HK.out; have := HCJ.out; omega
    case rel => exact ⟨j + 1, x + 1, rfl, ⟨by have := HX.out; omega⟩, ⟨by have := HK.out; have := HCJ.out; omega⟩, ⟨by
      have h := HPn.out
      have e1 : (by8 (m.take j ++ z32.drop j)).toArray.setIfInBounds x.toNat (.int .u8 z) = (by8 (m.take (j + 1) ++ z32.drop (j + 1))).toArray := by
        rw [HXT.out, ← set_mid m j z HZ.out (by have := HML.out; have := HCJ.out; omega)]
        exact setL _ _ _
      rw [e1] at h
      exact h⟩⟩
  · have d1 : decide (x < (m.length : Int)) = false := decide_eq_false (by omega)
    have HFI := Aside0.mk (show m.take j ++ z32.drop j = (rId b s).1 from by rw [show j = m.length by have := HK.out; omega, id_fin HM0.out, HID.out])
    rw [HFI.out] at HP
    have hi9 : (Try.prog.info? 63).map (·.size) = some (by8 (rId b s).1).toArray.size := by rw [List.size_toArray, by8, List.length_map, rId_l32]; kernel_rfl
    have hs9 : (by8 z32).toArray.size = (by8 (rId b s).1).toArray.size := by rw [List.size_toArray, List.size_toArray, by8, by8, List.length_map, List.length_map, rId_l32]; rfl
    clear hx c1
    go_wp2_with (first | ((with_reducible refine gate_dst (N := 20) rfl ?_); refine ev_load rfl 63 (.tmp 3) rfl g3 rfl (HP.out.blk 0 rfl) Try.underlying63 rfl hi9 ?_) | ((with_reducible refine gate_store (t := 63) (p := 2) rfl ?_); refine ev_store rfl 63 (.tmp 2) (.tmp 20) rfl rfl _ rfl (cells := (by8 (rId b s).1).toArray) rfl (HP.out.blk 1 rfl) hi9 hs9 (by simp [by8, Value.oneCell']) ?_; intro wz hg hgr; have HPn := Aside0.mk (HP.out.setB 1 rfl hgr hg); clear HP; have HP := HPn; clear HPn; clear hg hgr))
    refine bodyPost_ret (results_cell_row rfl _ _ g2 63 _ (0, 0) _ rfl (HP.out.blk 1 rfl) Try.underlying63 rfl hi9) rfl ?_
    exact ⟨rfl, by rw [HID.out]; exact Hp.dropN [_, _] HP.out⟩
end Go.Proofs.Ytlgnfbgjdkbfoaa.Rf
