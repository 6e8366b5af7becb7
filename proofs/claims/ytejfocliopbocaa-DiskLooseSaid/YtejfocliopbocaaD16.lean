import Derived.Test.YtejfocliopbocaaD14
import Derived.Deep.LoopGhost
namespace Go.Proofs.Ytejfocliopbocaa.D
open Go.RowKit Go.Proofs.Ytejfocliopbocaa.XD Go.Proofs.YtejfocliopbocaaW.PrintWords Go.Proofs.YtejfocliopbocaaW.PrintLast Go.Proofs.YtejfocliopbocaaW.PrintMore Go.Proofs.YtejfocliopbocaaXe Go.Proofs.YtejfocliopbocaaXs
set_option linter.unusedVariables false
set_option linter.unusedSimpArgs false
attribute [local go_sem ↓] Go.wp_at_zero Go.wp_at_succ
theorem List.reverseRecOn' {α : Type} {motive : List α → Prop} (nil : motive []) (snoc : ∀ l x, motive l → motive (l ++ [x])) : ∀ l, motive l := by
  intro l
  have h : ∀ m : List α, motive m.reverse := by
    intro m
    induction m with
    | nil => exact nil
    | cons x m ih => rw [List.reverse_cons]; exact snoc _ _ ih
  have := h l.reverse
  rwa [List.reverse_reverse] at this
def okA (x : S43) : Prop := x.f2.length ≤ 100 ∧ x.f3.length ≤ 100
def actS (S : DS) (x : S43) : DS := if x.f0 = 0 then writeS S x.f1 x.f2 else if x.f0 = 2 then flushS S else if x.f0 = 3 then fuseS S x.f1 else if x.f0 = 4 then crashS S x.f3 x.f1 else S
def runS (S : DS) (l : List S43) : DS := l.foldl actS S
theorem writeS_len (S : DS) (n : Int) (b : List Int) : (writeS S n b).l.length ≤ S.l.length + 1 := by
  unfold writeS
  split
  · omega
  · split
    · omega
    · split
      · simp
      · simp [DS.step]
theorem actS_len (S : DS) (x : S43) : (actS S x).l.length ≤ S.l.length + 1 := by
  unfold actS
  split
  · exact writeS_len _ _ _
  · split
    · unfold flushS; split <;> simp [DS.step]
    · split
      · unfold fuseS; split <;> simp
      · split
        · unfold crashS; split <;> simp
        · simp
theorem runS_snoc (S : DS) (l : List S43) (x : S43) : runS S (l ++ [x]) = actS (runS S l) x := by unfold runS; rw [List.foldl_append]; rfl
theorem runS_len (S : DS) : ∀ (l : List S43), (runS S l).l.length ≤ S.l.length + l.length := by
  intro l
  induction l using List.reverseRecOn' with
  | nil => simp [runS]
  | snoc l x ih => rw [runS_snoc]; have := actS_len (runS S l) x; simp; omega
/-- an act's cells -/
theorem act_cells {w : World} {b o n : Nat} {l : List S43} (h : k43.C w (some ⟨b, o, none⟩) n l) {j : Nat} {x : S43} (hj : l[j]? = some x) : ∃ A2 c2 A3 c3, w.cell? ⟨b, o + j * 4, none⟩ = some (.int .i64 x.f0) ∧ w.cell? ⟨b, o + j * 4 + 1, none⟩ = some (.int .i64 x.f1) ∧ w.cell? ⟨b, o + j * 4 + 2, none⟩ = some (.slice A2 x.f2.length c2) ∧ w.cell? ⟨b, o + j * 4 + 3, none⟩ = some (.slice A3 x.f3.length c3) ∧ x.f2.length ≤ c2 ∧ (Kd.int .u8).C w A2 x.f2.length x.f2 ∧ x.f3.length ≤ c3 ∧ Kd.bool.C w A3 x.f3.length x.f3 := by
  obtain ⟨cs, hK, hr⟩ := range_K h hj
  obtain ⟨A2, c2, A3, c3, rfl, l2, g2, l3, g3⟩ := k43_open hK
  exact ⟨A2, c2, A3, c3, hr 0 _ rfl, hr 1 _ rfl, hr 2 _ rfl, hr 3 _ rfl, l2, g2, l3, g3⟩
theorem c_crashD {w0 w : World} {Rs : List Res} (HP : Hp w0 w Rs) (i g : Nat) (S : DS) (hi : Rs[i]? = some (rDisk w0.heap.size g S)) (Ak : Option Addr) (ck : Nat) (keep : List Bool) (hkl : keep.length ≤ 9223372036854775807) (hB : Rd Kd.bool w0 Rs i Ak keep.length keep) (torn : Int) (hl : S.l.length ≤ 1000000) :
    Calls Try.prog 13 #[.pointer (some ⟨g, 0, none⟩), .slice Ak keep.length ck, .int .i64 torn] w fun e w' => e = .returned (.int .i64 (crashE torn)) ∧ Hp w0 w' (Rs.set i (rDisk w0.heap.size g (crashS S keep torn))) := by
  unfold crashE crashS
  by_cases h : torn < 0 ∨ 64 ≤ torn
  · rw [if_pos h, if_pos h, set_self hi]
    exact (c_crashE HP i g S hi _ torn h).mono fun e w' ⟨h1, h2⟩ => ⟨h1, by rw [h2]; exact HP⟩
  · rw [if_neg h, if_neg h]
    exact c_crash HP i g S hi Ak ck keep hkl hB torn (by omega) hl
theorem large_l0 (l : List S43) (hl : l.length ≤ 9223372036854775807) : ∀ (d i : Nat), i + d = 62 → (∀ x ∈ l.take i, okA x) → ∃ k r, retconlaw12_large.l0 k l (i : Int) = some r ∧ (r = false → l.length ≤ 60 ∧ ∀ x ∈ l, okA x) := by
  intro d
  induction d with
  | zero =>
    intro i hi hok
    refine ⟨2, decide ((l.length : Int) > 60), ?_, fun h => ?_⟩
    · obtain rfl : i = 62 := by omega
      unfold retconlaw12_large.l0
      split
      · rw [show decide (((62 : Nat) : Int) < 61) = false from by decide]
        simp [retconlaw12_large.j1]
      · simp [retconlaw12_large.j1]
    · have h1 : l.length ≤ 60 := by have h9 := of_decide_eq_false h; omega
      exact ⟨h1, fun x hx => hok x (by rw [List.take_of_length_le (by omega)]; exact hx)⟩
  | succ d ih =>
    intro i hi hok
    by_cases c1 : i < l.length
    · by_cases c2 : i < 61
      · have hrd : rd_T43 l (i : Int) = l[i] := by unfold rd_T43; rw [Int.toNat_natCast, List.getD_eq_getElem?_getD, List.getElem?_eq_getElem c1]; rfl
        have hd : decide ((i : Int) < 61) = true := decide_eq_true (by omega)
        by_cases c3 : (l[i].f2.length : Int) > 100
        · refine ⟨3, true, ?_, fun h => by cases h⟩
          unfold retconlaw12_large.l0
          rw [if_pos (by omega), hd]
          unfold retconlaw12_large.j1
          rw [if_pos rfl, if_pos (by omega), if_pos (by omega), hrd, if_pos c3]
          simp [retconlaw12_large.j2]
        · by_cases c4 : (l[i].f3.length : Int) > 100
          · refine ⟨3, true, ?_, fun h => by cases h⟩
            unfold retconlaw12_large.l0
            rw [if_pos (by omega), hd]
            unfold retconlaw12_large.j1
            rw [if_pos rfl, if_pos (by omega), if_pos (by omega), hrd, if_neg c3, decide_eq_true c4]
            simp [retconlaw12_large.j2]
          · obtain ⟨k, r, h1, h2⟩ := ih (i + 1) (by omega) (fun x hx => by
              rw [List.take_succ_eq_append_getElem c1] at hx
              rcases List.mem_append.1 hx with h | h
              · exact hok x h
              · rw [List.mem_singleton.1 h]; exact ⟨by omega, by omega⟩)
            refine ⟨k + 3, r, ?_, h2⟩
            unfold retconlaw12_large.l0
            rw [if_pos (by omega), hd]
            unfold retconlaw12_large.j1
            rw [if_pos rfl, if_pos (by omega), if_pos (by omega), hrd, if_neg c3, decide_eq_false c4]
            unfold retconlaw12_large.j2
            rw [if_neg (by decide), show wrap64 ((i : Int) + 1) = ((i + 1 : Nat) : Int) from by unfold wrap64; omega]
            exact h1
      · refine ⟨2, decide ((l.length : Int) > 60), ?_, fun h => ?_⟩
        · unfold retconlaw12_large.l0
          rw [if_pos (by omega), decide_eq_false (by omega)]
          simp [retconlaw12_large.j1]
        · have h1 : l.length ≤ 60 := by have h9 := of_decide_eq_false h; omega
          omega
    · refine ⟨2, decide ((l.length : Int) > 60), ?_, fun h => ?_⟩
      · unfold retconlaw12_large.l0
        rw [if_neg (by omega)]
        simp [retconlaw12_large.j1]
      · have h1 : l.length ≤ 60 := by have h9 := of_decide_eq_false h; omega
        exact ⟨h1, fun x hx => hok x (by rw [List.take_of_length_le (by omega)]; exact hx)⟩
theorem large_tells (l : List S43) (hl : l.length ≤ 9223372036854775807) : ∃ k r, retconlaw12_large.f k l = some r ∧ (r = false → l.length ≤ 60 ∧ ∀ x ∈ l, okA x) := large_l0 l hl 62 0 rfl (fun x hx => by simp at hx)
set_option maxHeartbeats 8000000 in
set_option maxRecDepth 100000 in
theorem c_run {w0 w : World} {Rs : List Res} (HP : Hp w0 w Rs) (i g : Nat) (S : DS) (hi : Rs[i]? = some (rDisk w0.heap.size g S)) (A : Option Addr) (c : Nat) (l : List S43) (hC : k43.C w0 A l.length l) (hok : ∀ x ∈ l, okA x) (hl : l.length ≤ 60) (hS : S.l.length ≤ 1000) :
    Calls Try.prog 20 #[.pointer (some ⟨g, 0, none⟩), .slice A l.length c] w fun e w' => e = .returned (.bool (!(runS S l).out)) ∧ Hp w0 w' (Rs.set i (rDisk w0.heap.size g (runS S l))) := by
  have HI := Aside0.mk (List.getElem?_eq_some_iff.1 hi).1
  have HPn := Aside0.mk (show Hp w0 w (Rs.set i (rDisk w0.heap.size g (runS S (l.take 0)))) by rw [List.take_zero]; rw [show runS S [] = S from rfl, set_self hi]; exact HP)
  clear HP hi
  have HP := HPn
  clear HPn
  have HC := Aside0.mk hC
  have HOK := Aside0.mk hok
  have HL := Aside0.mk hl
  have HS := Aside0.mk hS
  have hll : (l.length : Int) ≤ 60 := by omega
  clear hC hok hl hS
  go_enter Try.func20, Try.ntmps20
  go_wp2_with fail
  go_loopg [5] l.length (fun kq v5 w' => ∃ (j : Nat) (x : Int), v5 = .int .i64 x ∧ Aside0 (x = (j : Int)) ∧ Aside0 (kq + j = l.length) ∧ Aside0 (Hp w0 w' (Rs.set i (rDisk w0.heap.size g (runS S (l.take j))))))
  case atStart => exact ⟨0, 0, rfl, ⟨rfl⟩, ⟨rfl⟩, HP⟩
  clear HP
  obtain ⟨j, x, rfl, HX, HK, HP⟩ := hrel
  have hx := HX.out
  by_cases c1 : j < l.length
  · have d1 : decide (x < (l.length : Int)) = true := decide_eq_true (by omega)
    have ex : IntKind.i64.wrap (x + 1) = x + 1 := IntWalk.i64_in _ (by omega)
    have p0 : 0 ≤ x := by omega
    have q0 : x < (l.length : Int) := by omega
    obtain ⟨a, ha⟩ : ∃ p, l[j]? = some p := ⟨_, List.getElem?_eq_getElem c1⟩
    obtain ⟨Ab, Ao, rfl⟩ := C_addrK (by decide) HC.out (by omega)
    obtain ⟨A2, c2, A3, c3, k0, k1, k2, k3, k4, k5, k6, k7⟩ := act_cells HC.out ha
    have hxt : x.toNat = j := by omega
    have hlt : Ab < w0.heap.size := by
      rcases Nat.lt_or_ge Ab w0.heap.size with h | h
      · exact h
      · rw [World.cell?, Array.getElem?_eq_none h] at k0; cases k0
    have HA0 := Aside0.mk (fun w' (hb : Below w0.heap.size w0 w') => (show w'.cell? ⟨Ab, Ao + x.toNat * 4, none⟩ = some (.int .i64 a.f0) from (hb.cell (p := ⟨Ab, _, none⟩) (by exact hlt)).trans (by rw [hxt]; exact k0)))
    have HA1 := Aside0.mk (fun w' (hb : Below w0.heap.size w0 w') => (show w'.cell? ⟨Ab, Ao + x.toNat * 4 + 1, none⟩ = some (.int .i64 a.f1) from (hb.cell (p := ⟨Ab, _, none⟩) (by exact hlt)).trans (by rw [hxt]; exact k1)))
    have HA2 := Aside0.mk (fun w' (hb : Below w0.heap.size w0 w') => (show w'.cell? ⟨Ab, Ao + x.toNat * 4 + 2, none⟩ = some (.slice A2 a.f2.length c2) from (hb.cell (p := ⟨Ab, _, none⟩) (by exact hlt)).trans (by rw [hxt]; exact k2)))
    have HA3 := Aside0.mk (fun w' (hb : Below w0.heap.size w0 w') => (show w'.cell? ⟨Ab, Ao + x.toNat * 4 + 3, none⟩ = some (.slice A3 a.f3.length c3) from (hb.cell (p := ⟨Ab, _, none⟩) (by exact hlt)).trans (by rw [hxt]; exact k3)))
    have HB := Aside0.mk k5
    have HBK := Aside0.mk k7
    have HAJ := Aside0.mk ha
    have HOA := Aside0.mk (HOK.out a (List.mem_of_getElem? ha))
    have HLN := Aside0.mk (show (runS S (l.take j)).l.length ≤ 1000000 by have h1 := runS_len S (l.take j); have h2 := HS.out; have h3 := HL.out; rw [List.length_take] at h1; omega)
    have HTS := Aside0.mk (show runS S (l.take (j + 1)) = actS (runS S (l.take j)) a by rw [take_snocD l j a ha, runS_snoc])
    have hget := set_get (rDisk w0.heap.size g (runS S (l.take j))) HI.out
    have HGE := Aside0.mk hget
    have hc0 := HA0.out _ HP.out.below
    obtain ⟨T, hT⟩ : ∃ z, runS S (l.take j) = z := ⟨_, rfl⟩
    rw [hT] at HP HLN HTS HGE
    obtain ⟨k, hk⟩ : ∃ z, a.f0 = z := ⟨_, rfl⟩
    rw [hk] at hc0
    have HKK := Aside0.mk hk
    clear hx c1 k0 k1 k2 k3 k4 k5 k6 k7 hxt hlt ha hget hT hk
    by_cases e0 : k = 0
    · have d0 : (k == 0) = true := beq_iff_eq.2 e0
      have HE := Aside0.mk (show actS T a = writeS T a.f1 a.f2 by unfold actS; rw [if_pos (by rw [HKK.out]; exact e0)])
      clear e0
      go_wp2_with fail
      clear hc0
      refine held_named (S := (fun w' => w'.cell? ⟨Ab, Ao + x.toNat * 4 + 1, none⟩ = some (.int .i64 a.f1) ∧ w'.cell? ⟨Ab, Ao + x.toNat * 4 + 2, none⟩ = some (.slice A2 a.f2.length c2))) (by kernel_rfl) (fun wd6 hwd6 => ?_)
      have HPn := Aside0.mk (HP.out.drewN 1)
      rw [← World.drew_is_drewN, hwd6] at HPn
      clear HP hwd6
      have HP := HPn
      clear HPn
      refine ⟨by (try dsimp only); exact ⟨HA1.out _ HP.out.below, HA2.out _ HP.out.below⟩, fun hHeld => ?_⟩
      refine wpAnyH_take (i := 0) (oi := ({ dst := (some 19), op := (Op.move (Operand.tmp 0)), type := 22, pos := "outright.go:58", after := #[], guard := none } : Oper)) (v := ?_) rfl (by kernel_rfl) (by kernel_rfl) (by kernel_rfl) (fun _ _ _ h => h) (Or.inl ⟨by rfl, ?_⟩) hHeld ?_
      rotate_left
      · intro w_ hSw; (try dsimp only at hSw); go_simp; try (with_reducible rfl)
      try simp only [Act.put, List.setIfInBounds_toArray, List.set_cons_zero, List.set_cons_succ]
      refine wpAnyH_take (i := 1) (oi := ({ dst := (some 20), op := (Op.move (Operand.tmp 1)), type := 36, pos := "outright.go:58", after := #[], guard := none } : Oper)) (v := ?_) rfl (by kernel_rfl) (by kernel_rfl) (by kernel_rfl) (fun _ _ _ h => h) (Or.inl ⟨by rfl, ?_⟩) hHeld ?_
      rotate_left
      · intro w_ hSw; (try dsimp only at hSw); go_simp; try (with_reducible rfl)
      try simp only [Act.put, List.setIfInBounds_toArray, List.set_cons_zero, List.set_cons_succ]
      refine wpAnyH_take (i := 2) (oi := ({ dst := (some 21), op := (Op.move (Operand.tmp 5)), type := 3, pos := "outright.go:58", after := #[], guard := none } : Oper)) (v := ?_) rfl (by kernel_rfl) (by kernel_rfl) (by kernel_rfl) (fun _ _ _ h => h) (Or.inl ⟨by rfl, ?_⟩) hHeld ?_
      rotate_left
      · intro w_ hSw; (try dsimp only at hSw); go_simp; try (with_reducible rfl)
      try simp only [Act.put, List.setIfInBounds_toArray, List.set_cons_zero, List.set_cons_succ]
      refine wpAnyH_take (i := 3) (oi := ({ dst := (some 22), op := (Op.indexAddr 36 (Operand.tmp 20) (Operand.tmp 21)), type := 0, pos := "outright.go:58", after := #[{ on := 1, ground := Ground.data }, { on := 2, ground := Ground.data }], guard := none } : Oper)) (v := ?_) rfl (by kernel_rfl) (by kernel_rfl) (by kernel_rfl) (fun _ _ _ h => h) (Or.inl ⟨by rfl, ?_⟩) hHeld ?_
      rotate_left
      · intro w_ hSw; (try dsimp only at hSw); go_simp; try (with_reducible rfl)
      try simp only [Act.put, List.setIfInBounds_toArray, List.set_cons_zero, List.set_cons_succ]
      refine wpAnyH_take (i := 4) (oi := ({ dst := (some 23), op := (Op.fieldAddr 43 (Operand.tmp 22) 1), type := 0, pos := "outright.go:58", after := #[{ on := 3, ground := Ground.data }], guard := none } : Oper)) (v := ?_) rfl (by kernel_rfl) (by kernel_rfl) (by kernel_rfl) (fun _ _ _ h => h) (Or.inl ⟨by rfl, ?_⟩) hHeld ?_
      rotate_left
      · intro w_ hSw; (try dsimp only at hSw); go_simp; try (with_reducible rfl)
      try simp only [Act.put, List.setIfInBounds_toArray, List.set_cons_zero, List.set_cons_succ]
      refine wpAnyH_take (i := 5) (oi := ({ dst := (some 24), op := (Op.load 3 (Operand.tmp 23)), type := 3, pos := "outright.go:58", after := #[{ on := 4, ground := Ground.data }], guard := none } : Oper)) (v := ?_) rfl (by kernel_rfl) (by kernel_rfl) (by kernel_rfl) (fun _ _ _ h => h) (Or.inl ⟨by rfl, ?_⟩) hHeld ?_
      rotate_left
      · intro w_ hSw; (try dsimp only at hSw); go_simp; try (with_reducible rfl)
      try simp only [Act.put, List.setIfInBounds_toArray, List.set_cons_zero, List.set_cons_succ]
      refine wpAnyH_take (i := 6) (oi := ({ dst := (some 25), op := (Op.move (Operand.tmp 1)), type := 36, pos := "outright.go:58", after := #[], guard := none } : Oper)) (v := ?_) rfl (by kernel_rfl) (by kernel_rfl) (by kernel_rfl) (fun _ _ _ h => h) (Or.inl ⟨by rfl, ?_⟩) hHeld ?_
      rotate_left
      · intro w_ hSw; (try dsimp only at hSw); go_simp; try (with_reducible rfl)
      try simp only [Act.put, List.setIfInBounds_toArray, List.set_cons_zero, List.set_cons_succ]
      refine wpAnyH_take (i := 7) (oi := ({ dst := (some 26), op := (Op.move (Operand.tmp 5)), type := 3, pos := "outright.go:58", after := #[], guard := none } : Oper)) (v := ?_) rfl (by kernel_rfl) (by kernel_rfl) (by kernel_rfl) (fun _ _ _ h => h) (Or.inl ⟨by rfl, ?_⟩) hHeld ?_
      rotate_left
      · intro w_ hSw; (try dsimp only at hSw); go_simp; try (with_reducible rfl)
      try simp only [Act.put, List.setIfInBounds_toArray, List.set_cons_zero, List.set_cons_succ]
      refine wpAnyH_take (i := 8) (oi := ({ dst := (some 27), op := (Op.indexAddr 36 (Operand.tmp 25) (Operand.tmp 26)), type := 0, pos := "outright.go:58", after := #[{ on := 6, ground := Ground.data }, { on := 7, ground := Ground.data }], guard := none } : Oper)) (v := ?_) rfl (by kernel_rfl) (by kernel_rfl) (by kernel_rfl) (fun _ _ _ h => h) (Or.inl ⟨by rfl, ?_⟩) hHeld ?_
      rotate_left
      · intro w_ hSw; (try dsimp only at hSw); go_simp; try (with_reducible rfl)
      try simp only [Act.put, List.setIfInBounds_toArray, List.set_cons_zero, List.set_cons_succ]
      refine wpAnyH_take (i := 9) (oi := ({ dst := (some 28), op := (Op.fieldAddr 43 (Operand.tmp 27) 2), type := 0, pos := "outright.go:58", after := #[{ on := 8, ground := Ground.data }], guard := none } : Oper)) (v := ?_) rfl (by kernel_rfl) (by kernel_rfl) (by kernel_rfl) (fun _ _ _ h => h) (Or.inl ⟨by rfl, ?_⟩) hHeld ?_
      rotate_left
      · intro w_ hSw; (try dsimp only at hSw); go_simp; try (with_reducible rfl)
      try simp only [Act.put, List.setIfInBounds_toArray, List.set_cons_zero, List.set_cons_succ]
      refine wpAnyH_take (i := 10) (oi := ({ dst := (some 29), op := (Op.load 27 (Operand.tmp 28)), type := 27, pos := "outright.go:58", after := #[{ on := 9, ground := Ground.data }], guard := none } : Oper)) (v := ?_) rfl (by kernel_rfl) (by kernel_rfl) (by kernel_rfl) (fun _ _ _ h => h) (Or.inl ⟨by rfl, ?_⟩) hHeld ?_
      rotate_left
      · intro w_ hSw; (try dsimp only at hSw); go_simp; try (with_reducible rfl)
      try simp only [Act.put, List.setIfInBounds_toArray, List.set_cons_zero, List.set_cons_succ]
      refine wpAnyH_ready (rs := [11]) (by kernel_rfl) (by simp) ?_
      refine AllReadyH.cons (o := ({ dst := (some 30), op := (Op.call { callee := (Callee.value (Operand.func 11)), args := #[(Operand.tmp 19), (Operand.tmp 24), (Operand.tmp 29)], argTypes := #[22, 3, 27] }), type := 24, pos := "outright.go:58", after := #[{ on := 0, ground := Ground.data }, { on := 5, ground := Ground.data }, { on := 10, ground := Ground.data }], guard := none } : Oper)) rfl (fun K hK => ?_) AllReadyH.nil
      go_simp
      refine (c_write HP.out i g T HGE.out a.f1 A2 c2 a.f2 (by have := HOA.out.1; omega) (Rd.below HB.out) HLN.out).mono ?_; rintro e w2 ⟨rfl, hpn⟩; clear HP; have HP := Aside0.mk hpn; clear hpn
      go_wp2_with fail
      clear hHeld
      refine hK.out _ _ ?_ (fun hHeld => ?_)
      · (try dsimp only); exact ⟨HA1.out _ HP.out.below, HA2.out _ HP.out.below⟩
      clear hK K
      try simp only [Act.put, List.setIfInBounds_toArray, List.set_cons_zero, List.set_cons_succ]
      refine wpAnyH_done (by kernel_rfl) ?_ _
      go_wp2_with fail
      go_roundg (gk - 1)
      case measure => have := HK.out; have := (List.getElem?_eq_some_iff.1 HAJ.out).1; omega
      case rel => exact ⟨j + 1, x + 1, rfl, ⟨by have := HX.out; omega⟩, ⟨by have := HK.out; have := (List.getElem?_eq_some_iff.1 HAJ.out).1; omega⟩, ⟨by rw [HTS.out, HE.out]; have h := HP.out; rw [List.set_set] at h; exact h⟩⟩
    · have d0 : (k == 0) = false := beq_eq_false_iff_ne.2 e0
      by_cases e2 : k = 2
      · have d2 : (k == 2) = true := beq_iff_eq.2 e2
        have HE := Aside0.mk (show actS T a = flushS T by unfold actS; rw [HKK.out, if_neg e0, if_pos e2])
        clear e0 e2
        go_wp2_with fail
        clear hc0
        refine (c_flush HP.out i g T HGE.out HLN.out).mono ?_; rintro e w2 ⟨rfl, hpn⟩; clear HP; have HP := Aside0.mk hpn; clear hpn
        go_wp2_with fail
        go_roundg (gk - 1)
        case measure => have := HK.out; have := (List.getElem?_eq_some_iff.1 HAJ.out).1; omega
        case rel => exact ⟨j + 1, x + 1, rfl, ⟨by have := HX.out; omega⟩, ⟨by have := HK.out; have := (List.getElem?_eq_some_iff.1 HAJ.out).1; omega⟩, ⟨by rw [HTS.out, HE.out]; have h := HP.out; rw [List.set_set] at h; exact h⟩⟩
      · have d2 : (k == 2) = false := beq_eq_false_iff_ne.2 e2
        by_cases e3 : k = 3
        · have d3 : (k == 3) = true := beq_iff_eq.2 e3
          have HE := Aside0.mk (show actS T a = fuseS T a.f1 by unfold actS; rw [HKK.out, if_neg e0, if_neg e2, if_pos e3])
          have hc1 := HA1.out _ HP.out.below
          clear e0 e2 e3
          go_wp2_with fail
          clear hc0 hc1
          refine (c_fuseD HP.out i g T HGE.out a.f1).mono ?_; rintro e w2 ⟨rfl, hpn⟩; clear HP; have HP := Aside0.mk hpn; clear hpn
          go_wp2_with fail
          go_roundg (gk - 1)
          case measure => have := HK.out; have := (List.getElem?_eq_some_iff.1 HAJ.out).1; omega
          case rel => exact ⟨j + 1, x + 1, rfl, ⟨by have := HX.out; omega⟩, ⟨by have := HK.out; have := (List.getElem?_eq_some_iff.1 HAJ.out).1; omega⟩, ⟨by rw [HTS.out, HE.out]; have h := HP.out; rw [List.set_set] at h; exact h⟩⟩
        · have d3 : (k == 3) = false := beq_eq_false_iff_ne.2 e3
          by_cases e4 : k = 4
          · have d4 : (k == 4) = true := beq_iff_eq.2 e4
            have HE := Aside0.mk (show actS T a = crashS T a.f3 a.f1 by unfold actS; rw [HKK.out, if_neg e0, if_neg e2, if_neg e3, if_pos e4])
            clear e0 e2 e3 e4
            go_wp2_with fail
            clear hc0
            refine held_named (S := (fun w' => w'.cell? ⟨Ab, Ao + x.toNat * 4 + 1, none⟩ = some (.int .i64 a.f1) ∧ w'.cell? ⟨Ab, Ao + x.toNat * 4 + 3, none⟩ = some (.slice A3 a.f3.length c3))) (by kernel_rfl) (fun wd12 hwd12 => ?_)
            have HPn := Aside0.mk (HP.out.drewN 1)
            rw [← World.drew_is_drewN, hwd12] at HPn
            clear HP hwd12
            have HP := HPn
            clear HPn
            refine ⟨by (try dsimp only); exact ⟨HA1.out _ HP.out.below, HA3.out _ HP.out.below⟩, fun hHeld => ?_⟩
            refine wpAnyH_take (i := 0) (oi := ({ dst := (some 46), op := (Op.move (Operand.tmp 0)), type := 22, pos := "outright.go:64", after := #[], guard := none } : Oper)) (v := ?_) rfl (by kernel_rfl) (by kernel_rfl) (by kernel_rfl) (fun _ _ _ h => h) (Or.inl ⟨by rfl, ?_⟩) hHeld ?_
            rotate_left
            · intro w_ hSw; (try dsimp only at hSw); go_simp; try (with_reducible rfl)
            try simp only [Act.put, List.setIfInBounds_toArray, List.set_cons_zero, List.set_cons_succ]
            refine wpAnyH_take (i := 1) (oi := ({ dst := (some 47), op := (Op.move (Operand.tmp 1)), type := 36, pos := "outright.go:64", after := #[], guard := none } : Oper)) (v := ?_) rfl (by kernel_rfl) (by kernel_rfl) (by kernel_rfl) (fun _ _ _ h => h) (Or.inl ⟨by rfl, ?_⟩) hHeld ?_
            rotate_left
            · intro w_ hSw; (try dsimp only at hSw); go_simp; try (with_reducible rfl)
            try simp only [Act.put, List.setIfInBounds_toArray, List.set_cons_zero, List.set_cons_succ]
            refine wpAnyH_take (i := 2) (oi := ({ dst := (some 48), op := (Op.move (Operand.tmp 5)), type := 3, pos := "outright.go:64", after := #[], guard := none } : Oper)) (v := ?_) rfl (by kernel_rfl) (by kernel_rfl) (by kernel_rfl) (fun _ _ _ h => h) (Or.inl ⟨by rfl, ?_⟩) hHeld ?_
            rotate_left
            · intro w_ hSw; (try dsimp only at hSw); go_simp; try (with_reducible rfl)
            try simp only [Act.put, List.setIfInBounds_toArray, List.set_cons_zero, List.set_cons_succ]
            refine wpAnyH_take (i := 3) (oi := ({ dst := (some 49), op := (Op.indexAddr 36 (Operand.tmp 47) (Operand.tmp 48)), type := 0, pos := "outright.go:64", after := #[{ on := 1, ground := Ground.data }, { on := 2, ground := Ground.data }], guard := none } : Oper)) (v := ?_) rfl (by kernel_rfl) (by kernel_rfl) (by kernel_rfl) (fun _ _ _ h => h) (Or.inl ⟨by rfl, ?_⟩) hHeld ?_
            rotate_left
            · intro w_ hSw; (try dsimp only at hSw); go_simp; try (with_reducible rfl)
            try simp only [Act.put, List.setIfInBounds_toArray, List.set_cons_zero, List.set_cons_succ]
            refine wpAnyH_take (i := 4) (oi := ({ dst := (some 50), op := (Op.fieldAddr 43 (Operand.tmp 49) 3), type := 0, pos := "outright.go:64", after := #[{ on := 3, ground := Ground.data }], guard := none } : Oper)) (v := ?_) rfl (by kernel_rfl) (by kernel_rfl) (by kernel_rfl) (fun _ _ _ h => h) (Or.inl ⟨by rfl, ?_⟩) hHeld ?_
            rotate_left
            · intro w_ hSw; (try dsimp only at hSw); go_simp; try (with_reducible rfl)
            try simp only [Act.put, List.setIfInBounds_toArray, List.set_cons_zero, List.set_cons_succ]
            refine wpAnyH_take (i := 5) (oi := ({ dst := (some 51), op := (Op.load 33 (Operand.tmp 50)), type := 33, pos := "outright.go:64", after := #[{ on := 4, ground := Ground.data }], guard := none } : Oper)) (v := ?_) rfl (by kernel_rfl) (by kernel_rfl) (by kernel_rfl) (fun _ _ _ h => h) (Or.inl ⟨by rfl, ?_⟩) hHeld ?_
            rotate_left
            · intro w_ hSw; (try dsimp only at hSw); go_simp; try (with_reducible rfl)
            try simp only [Act.put, List.setIfInBounds_toArray, List.set_cons_zero, List.set_cons_succ]
            refine wpAnyH_take (i := 6) (oi := ({ dst := (some 52), op := (Op.move (Operand.tmp 1)), type := 36, pos := "outright.go:64", after := #[], guard := none } : Oper)) (v := ?_) rfl (by kernel_rfl) (by kernel_rfl) (by kernel_rfl) (fun _ _ _ h => h) (Or.inl ⟨by rfl, ?_⟩) hHeld ?_
            rotate_left
            · intro w_ hSw; (try dsimp only at hSw); go_simp; try (with_reducible rfl)
            try simp only [Act.put, List.setIfInBounds_toArray, List.set_cons_zero, List.set_cons_succ]
            refine wpAnyH_take (i := 7) (oi := ({ dst := (some 53), op := (Op.move (Operand.tmp 5)), type := 3, pos := "outright.go:64", after := #[], guard := none } : Oper)) (v := ?_) rfl (by kernel_rfl) (by kernel_rfl) (by kernel_rfl) (fun _ _ _ h => h) (Or.inl ⟨by rfl, ?_⟩) hHeld ?_
            rotate_left
            · intro w_ hSw; (try dsimp only at hSw); go_simp; try (with_reducible rfl)
            try simp only [Act.put, List.setIfInBounds_toArray, List.set_cons_zero, List.set_cons_succ]
            refine wpAnyH_take (i := 8) (oi := ({ dst := (some 54), op := (Op.indexAddr 36 (Operand.tmp 52) (Operand.tmp 53)), type := 0, pos := "outright.go:64", after := #[{ on := 6, ground := Ground.data }, { on := 7, ground := Ground.data }], guard := none } : Oper)) (v := ?_) rfl (by kernel_rfl) (by kernel_rfl) (by kernel_rfl) (fun _ _ _ h => h) (Or.inl ⟨by rfl, ?_⟩) hHeld ?_
            rotate_left
            · intro w_ hSw; (try dsimp only at hSw); go_simp; try (with_reducible rfl)
            try simp only [Act.put, List.setIfInBounds_toArray, List.set_cons_zero, List.set_cons_succ]
            refine wpAnyH_take (i := 9) (oi := ({ dst := (some 55), op := (Op.fieldAddr 43 (Operand.tmp 54) 1), type := 0, pos := "outright.go:64", after := #[{ on := 8, ground := Ground.data }], guard := none } : Oper)) (v := ?_) rfl (by kernel_rfl) (by kernel_rfl) (by kernel_rfl) (fun _ _ _ h => h) (Or.inl ⟨by rfl, ?_⟩) hHeld ?_
            rotate_left
            · intro w_ hSw; (try dsimp only at hSw); go_simp; try (with_reducible rfl)
            try simp only [Act.put, List.setIfInBounds_toArray, List.set_cons_zero, List.set_cons_succ]
            refine wpAnyH_take (i := 10) (oi := ({ dst := (some 56), op := (Op.load 3 (Operand.tmp 55)), type := 3, pos := "outright.go:64", after := #[{ on := 9, ground := Ground.data }], guard := none } : Oper)) (v := ?_) rfl (by kernel_rfl) (by kernel_rfl) (by kernel_rfl) (fun _ _ _ h => h) (Or.inl ⟨by rfl, ?_⟩) hHeld ?_
            rotate_left
            · intro w_ hSw; (try dsimp only at hSw); go_simp; try (with_reducible rfl)
            try simp only [Act.put, List.setIfInBounds_toArray, List.set_cons_zero, List.set_cons_succ]
            refine wpAnyH_ready (rs := [11]) (by kernel_rfl) (by simp) ?_
            refine AllReadyH.cons (o := ({ dst := (some 57), op := (Op.call { callee := (Callee.value (Operand.func 13)), args := #[(Operand.tmp 46), (Operand.tmp 51), (Operand.tmp 56)], argTypes := #[22, 33, 3] }), type := 24, pos := "outright.go:64", after := #[{ on := 0, ground := Ground.data }, { on := 5, ground := Ground.data }, { on := 10, ground := Ground.data }], guard := none } : Oper)) rfl (fun K hK => ?_) AllReadyH.nil
            go_simp
            refine (c_crashD HP.out i g T HGE.out A3 c3 a.f3 (by have := HOA.out.2; omega) (Rd.below HBK.out) a.f1 HLN.out).mono ?_; rintro e w2 ⟨rfl, hpn⟩; clear HP; have HP := Aside0.mk hpn; clear hpn
            go_wp2_with fail
            clear hHeld
            refine hK.out _ _ ?_ (fun hHeld => ?_)
            · (try dsimp only); exact ⟨HA1.out _ HP.out.below, HA3.out _ HP.out.below⟩
            clear hK K
            try simp only [Act.put, List.setIfInBounds_toArray, List.set_cons_zero, List.set_cons_succ]
            refine wpAnyH_done (by kernel_rfl) ?_ _
            go_wp2_with fail
            go_roundg (gk - 1)
            case measure => have := HK.out; have := (List.getElem?_eq_some_iff.1 HAJ.out).1; omega
            case rel => exact ⟨j + 1, x + 1, rfl, ⟨by have := HX.out; omega⟩, ⟨by have := HK.out; have := (List.getElem?_eq_some_iff.1 HAJ.out).1; omega⟩, ⟨by rw [HTS.out, HE.out]; have h := HP.out; rw [List.set_set] at h; exact h⟩⟩
          · have d4 : (k == 4) = false := beq_eq_false_iff_ne.2 e4
            have HE := Aside0.mk (show actS T a = T by unfold actS; rw [HKK.out, if_neg e0, if_neg e2, if_neg e3, if_neg e4])
            clear e0 e2 e3 e4
            go_wp2_with fail
            clear hc0
            go_roundg (gk - 1)
            case measure => have := HK.out; have := (List.getElem?_eq_some_iff.1 HAJ.out).1; omega
            case rel => exact ⟨j + 1, x + 1, rfl, ⟨by have := HX.out; omega⟩, ⟨by have := HK.out; have := (List.getElem?_eq_some_iff.1 HAJ.out).1; omega⟩, ⟨by rw [HTS.out, HE.out]; exact HP.out⟩⟩
  · have d1 : decide (x < (l.length : Int)) = false := decide_eq_false (by omega)
    have HE := Aside0.mk (show l.take j = l from List.take_of_length_le (by omega))
    rw [HE.out] at HP
    clear hx c1
    go_wp2_with fail
    refine (c_upD HP.out i g (runS S l) (set_get _ HI.out)).mono ?_; rintro e w_ ⟨rfl, rfl⟩
    go_wp2_with fail
    go_ret
    exact ⟨rfl, HP.out⟩
end Go.Proofs.Ytejfocliopbocaa.D
