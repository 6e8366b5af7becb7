import Derived.Test.YtejfocliopbocaaQ03
import Derived.Deep.LoopGhost
namespace Go.Proofs.Ytejfocliopbocaa.D
open Go.RowKit Go.Proofs.Ytejfocliopbocaa.XD Go.Proofs.YtejfocliopbocaaW.PrintWords Go.Proofs.YtejfocliopbocaaW.PrintLast Go.Proofs.YtejfocliopbocaaW.PrintMore Go.Proofs.YtejfocliopbocaaXe Go.Proofs.YtejfocliopbocaaXs
set_option linter.unusedVariables false
set_option linter.unusedSimpArgs false
attribute [local go_sem ↓] Go.wp_at_zero Go.wp_at_succ
def put1 (f : Int → List Int) (n : Int) (b : List Int) : Int → List Int := fun j => if n = j then b else f j
/-- what a crash leaves: the loose writes that stay, and one that is torn -/
def crashG (keep : List Bool) : List (Int × List Int) → Nat → Int → (Int → List Int) → (Int → List Int)
  | [], _, _, f => f
  | p :: l, i, torn, f => if keep[i]? = some true then crashG keep l (i + 1) torn (put1 f p.1 p.2) else crashG keep l (i + 1) 0 (put1 f p.1 (p.2.take torn.toNat ++ (f p.1).drop torn.toNat))
def crashE (torn : Int) : Int := if torn < 0 ∨ 64 ≤ torn then 2 else 0
def crashS (S : DS) (keep : List Bool) (torn : Int) : DS := if torn < 0 ∨ 64 ≤ torn then S else { S with fuse := -1, out := false, at' := crashG keep S.l 0 torn S.at', l := [] }
theorem put1_len {f : Int → List Int} {n : Int} {b : List Int} (h : ∀ k, (f k).length = 64) (hb : b.length = 64) : ∀ k, (put1 f n b k).length = 64 := by
  intro k
  unfold put1
  split
  · exact hb
  · exact h k
theorem torn_len {b c : List Int} {t : Int} (hb : b.length = 64) (hc : c.length = 64) (h0 : 0 ≤ t) (h1 : t < 64) : (b.take t.toNat ++ c.drop t.toNat).length = 64 := by
  rw [List.length_append, List.length_take, List.length_drop]; omega
theorem look_put' (m : List Ent) (n : Int) (b : List Int) (c : Nat) : look (putM m n b c) = put1 (look m) n b := by
  funext q; exact look_put m n q b c
theorem drop_consD {α : Type} (l : List α) (k : Nat) (x : α) (h : l[k]? = some x) : l.drop k = x :: l.drop (k + 1) := by
  obtain ⟨h1, h2⟩ := List.getElem?_eq_some_iff.1 h
  rw [List.drop_eq_getElem_cons h1, h2]
theorem splice_u8c (c b : List Int) (t : Int) (hb : b.length = 64) (hc : c.length = 64) (h0 : 0 ≤ t) (h1 : t < 64) : splice (u8c c) 0 ((((b.take t.toNat)).take t.toNat).map (Value.int .u8)) = u8c (b.take t.toNat ++ c.drop t.toNat) := by
  unfold splice u8c
  have e : ((b.take t.toNat).take t.toNat) = b.take t.toNat := by rw [List.take_take, Nat.min_self]
  rw [e]
  simp only [List.take_zero, List.nil_append, List.length_map, List.length_take, List.map_append, List.map_drop, List.map_take]
  rw [Nat.zero_add, Nat.min_eq_left (by omega)]
theorem C_mid {w : World} {g : Nat} {x : Value} {l : List Int} {t : TypeId} {fr : Nat × Nat} (hg : w.heap[g]? = some (.cells (x :: u8c l).toArray t fr)) (k : Nat) (hk : k ≤ l.length) (hl : l.length ≤ 9223372036854775807) : (Kd.int .u8).C w (some ⟨g, 1, none⟩) (l.take k).length (l.take k) := by
  refine C_ints (by rw [List.length_take]; omega) fun j u hj => ?_
  rw [List.getElem?_take] at hj
  split at hj
  · rw [add_at, cell_of_row w g _ _ t fr hg, Nat.add_comm]
    simp [u8c, hj]
  · cases hj
theorem cell_bool {w : World} {A : Option Addr} {n : Nat} {l : List Bool} (h : Kd.bool.C w A n l) {j : Nat} {x : Bool} (hj : l[j]? = some x) : ∃ b o, A = some ⟨b, o, none⟩ ∧ w.cell? ⟨b, o + j, none⟩ = some (.bool x) := by
  have hl : j < l.length := (List.getElem?_eq_some_iff.1 hj).1
  obtain ⟨b, o, rfl⟩ := C_addrK (by decide) h (by have := h.1; omega)
  obtain ⟨cs, hcs, hr⟩ := range_K h hj
  have h2 : cs = [.bool x] := hcs
  subst h2
  have h3 := hr 0 _ rfl
  exact ⟨b, o, rfl, by simpa [show Kd.bool.sz = 1 from rfl] using h3⟩
set_option maxHeartbeats 8000000 in
set_option maxRecDepth 100000 in
theorem c_crashE {w0 w : World} {Rs : List Res} (HP : Hp w0 w Rs) (i g : Nat) (S : DS) (hi : Rs[i]? = some (rDisk w0.heap.size g S)) (kv : Value) (torn : Int) (ht : torn < 0 ∨ 64 ≤ torn) :
    Calls Try.prog 13 #[.pointer (some ⟨g, 0, none⟩), kv, .int .i64 torn] w fun e w' => e = .returned (.int .i64 2) ∧ w' = w := by
  obtain ⟨⟨gm, m, clock, v⟩, hm, HP0⟩ := HP.openE i hi
  have HP1 : Hp w0 w (.blk g (.cells (dC S.steps S.fuse S.out true S.many gm v).toArray 63 (0, 0)) :: .blk gm (.map (rawM m) clock) :: .row KL 70 w0.heap.size v S.l :: Rs.set i .none) := HP0
  have hil : i < Rs.length := (List.getElem?_eq_some_iff.1 hi).1
  have HPn := Aside0.mk HP1
  have HM := Aside0.mk hm
  have HI := Aside0.mk hil
  clear HP HP0 HP1 hm hil
  have HP := HPn
  clear HPn
  have HR := Aside0.mk (fun w hg => c_none g S.steps S.fuse S.out S.many gm v w hg)
  clear hi
  by_cases c1 : torn < 0
  · have d1 : decide (torn < 0) = true := decide_eq_true c1
    clear c1 ht
    go_enter Try.func13, Try.ntmps13
    go_wp2_with fail
    refine (HR.out _ (HP.out.blk 0 rfl)).mono ?_; rintro e w_ ⟨rfl, rfl⟩
    go_wp2_with fail
    go_ret
    exact ⟨rfl, rfl⟩
  · have d1 : decide (torn < 0) = false := decide_eq_false c1
    have d2 : decide (64 ≤ torn) = true := decide_eq_true (by omega)
    clear c1 ht
    go_enter Try.func13, Try.ntmps13
    go_wp2_with fail
    refine (HR.out _ (HP.out.blk 0 rfl)).mono ?_; rintro e w_ ⟨rfl, rfl⟩
    go_wp2_with fail
    go_ret
    exact ⟨rfl, rfl⟩
set_option maxHeartbeats 8000000 in
set_option maxRecDepth 100000 in
theorem c_crash {w0 w : World} {Rs : List Res} (HP : Hp w0 w Rs) (i g : Nat) (S : DS) (hi : Rs[i]? = some (rDisk w0.heap.size g S)) (Ak : Option Addr) (ck : Nat) (keep : List Bool) (hkl : keep.length ≤ 9223372036854775807) (hB : Rd Kd.bool w0 Rs i Ak keep.length keep) (torn : Int) (ht : 0 ≤ torn ∧ torn < 64) (hl : S.l.length ≤ 1000000) :
    Calls Try.prog 13 #[.pointer (some ⟨g, 0, none⟩), .slice Ak keep.length ck, .int .i64 torn] w fun e w' => e = .returned (.int .i64 0) ∧ Hp w0 w' (Rs.set i (rDisk w0.heap.size g { S with fuse := -1, out := false, at' := crashG keep S.l 0 torn S.at', l := [] })) := by
  obtain ⟨⟨gm, m, clock, v⟩, hm, HP0⟩ := HP.openE i hi
  have HP1 : Hp w0 w (.blk g (.cells (dC S.steps S.fuse S.out true S.many gm v).toArray 63 (0, 0)) :: .blk gm (.map (rawM m) clock) :: .row KL 70 w0.heap.size v S.l :: Rs.set i .none) := HP0
  have hil : i < Rs.length := (List.getElem?_eq_some_iff.1 hi).1
  have HPn := Aside0.mk HP1
  have HM := Aside0.mk hm
  have HI := Aside0.mk hil
  clear HP HP0 HP1 hm hil
  have HP := HPn
  clear HPn
  have HR := Aside0.mk (fun w hg => c_none g S.steps S.fuse S.out S.many gm v w hg)
  obtain ⟨Av, cv, rfl⟩ := Kd.R_slice (HP.out.row 2 rfl)
  have HLN := Aside0.mk (KL_len (Kd.R_reads' (HP.out.row 2 rfl)).2.2)
  have hll : (S.l.length : Int) ≤ 1000000 := by omega
  have HB := Aside0.mk hB
  obtain ⟨nk, hnk⟩ : ∃ z, keep.length = z := ⟨_, rfl⟩
  rw [hnk] at HB hkl
  rw [hnk]
  have HNK := Aside0.mk hnk
  have HT0 := Aside0.mk ht
  have h6 : w.cell? ⟨g, 6, none⟩ = some (.slice Av S.l.length cv) := blk_cell (HP.out.blk 0 rfl) 6
  have d1 : decide (torn < 0) = false := decide_eq_false (by omega)
  have d2 : decide (64 ≤ torn) = false := decide_eq_false (by omega)
  clear hi hl hB hnk ht
  go_enter Try.func13, Try.ntmps13
  go_wp2_with fail
  refine (HR.out _ (HP.out.blk 0 rfl)).mono ?_; rintro e w_ ⟨rfl, rfl⟩
  go_wp2_with fail
  clear h6 d1 d2
  go_loopg [25, 2] S.l.length (fun kq v25 v2 w' => ∃ (j : Nat) (x torn' : Int) (m' : List Ent) (clock' : Nat), v25 = .int .i64 x ∧ v2 = .int .i64 torn' ∧ Aside0 (x = (j : Int)) ∧ Aside0 (kq + j = S.l.length) ∧ Aside0 (0 ≤ torn' ∧ torn' < 64) ∧ Aside0 (crashG keep S.l 0 torn (look m) = crashG keep (S.l.drop j) j torn' (look m')) ∧ Aside0 (∀ k, (look m' k).length = 64) ∧ Aside0 (Hp w0 w' (.blk g (.cells (dC S.steps S.fuse S.out true S.many gm (.slice Av S.l.length cv)).toArray 63 (0, 0)) :: .blk gm (.map (rawM m') clock') :: .row KL 70 w0.heap.size (.slice Av S.l.length cv) S.l :: Rs.set i .none)))
  case atStart => exact ⟨0, 0, torn, m, clock, rfl, rfl, ⟨rfl⟩, ⟨rfl⟩, HT0, ⟨rfl⟩, ⟨by rw [HM.out.1]; exact HM.out.2⟩, HP⟩
  clear HP
  obtain ⟨j, x, torn', m', clock', rfl, rfl, HX, HK, HT, HG, HML, HP⟩ := hrel
  have hx := HX.out
  by_cases c1 : j < S.l.length
  · have d1 : decide (x < (S.l.length : Int)) = true := decide_eq_true (by omega)
    have ex : IntKind.i64.wrap (x + 1) = x + 1 := IntWalk.i64_in _ (by omega)
    have p0 : 0 ≤ x := by omega
    have q0 : x < (S.l.length : Int) := by omega
    obtain ⟨⟨n, b⟩, hnb⟩ : ∃ p, S.l[j]? = some p := ⟨_, List.getElem?_eq_getElem c1⟩
    have hC := (Kd.R_reads' (HP.out.row 2 rfl)).2.2
    obtain ⟨Ab, Ao, rfl⟩ := C_addrK (by decide) hC (by omega)
    obtain ⟨cs, ⟨hcs, hbl⟩, hra⟩ := range_K hC hnb
    have hcs2 : cs = lc n b := hcs
    subst hcs2
    have hxt : x.toNat = j := by omega
    rw [show KL.sz = 65 from rfl, ← hxt] at hra
    have HRA := Aside0.mk hra
    have HNB := Aside0.mk hnb
    have HBL := Aside0.mk hbl
    have HLM := Aside0.mk (HML.out n)
    have hi65 : (Try.prog.info? 70).map (·.size) = some (lc n b).length := by rw [lc_len n b hbl]; kernel_rfl
    have hi64 : (Try.prog.info? 68).map (·.size) = some (u8c b).length := by rw [u8c_len, hbl]; kernel_rfl
    have hu := Try.underlying68
    have hct : ∀ (g o : Nat) (w : World), (Instr.sliceAt 68 (.pointer (some ⟨g, o, none⟩)) none (some (.int .i64 torn')) none).run Try.prog w = .ok (.slice (some ⟨g, o, none⟩) torn'.toNat 64) w := fun g o w => run_cut_to (P := Try.prog) Try.underlying68 (by kernel_rfl) (by decide) g o torn' HT.out.1 (by have := HT.out; omega) w
    clear c1 hC hra hnb hbl
    by_cases c2 : j < nk
    · have d2 : decide (x < (nk : Int)) = true := decide_eq_true (by omega)
      have q1 : x < (nk : Int) := by omega
      obtain ⟨kb, hkb⟩ : ∃ z, keep[j]? = some z := ⟨_, List.getElem?_eq_getElem (by rw [HNK.out]; exact c2)⟩
      obtain ⟨Bk, Bo, rfl, _⟩ := cell_bool (HB.out _ .none (Hp.dropN [_, _, _] HP.out)) hkb
      have hkc : ∀ w, (∃ X, Hp w0 w (Rs.set i X)) → w.cell? ⟨Bk, Bo + x.toNat, none⟩ = some (.bool kb) := fun w ⟨X, h⟩ => by
        obtain ⟨b', o', he, hc⟩ := cell_bool (HB.out w X h) hkb
        cases he
        rw [hxt]; exact hc
      have HKC := Aside0.mk hkc
      cases kb with
      | true =>
        have HKJ := Aside0.mk hkb
        clear hx c2 hkb hkc hxt
        go_wp2_with (first | ((with_reducible refine gate_dst (N := 29) rfl ?_); refine ev_elem rfl 70 (.tmp 28) rfl Ab (Ao + x.toNat * 65) rfl (lc n b) HRA.out Try.underlying70 rfl hi65 ?_) | ((with_reducible refine gate_dst (N := 8) rfl ?_); refine ev_alloc rfl 70 rfl (.agg (lc 0 s64).toArray) (by kernel_rfl) ?_; intro gx wa hge hg hb; have HPn := Aside0.mk (HP.out.newB hb hg hge); clear HP; have HP := HPn; clear HPn; clear hge hg hb) | ((with_reducible refine gate_store (t := 70) (p := 8) rfl ?_); refine ev_store rfl 70 (.tmp 8) (.tmp 29) rfl rfl _ rfl (cells := (lc n b).toArray) rfl (HP.out.blk 0 rfl) (by rw [List.size_toArray]; exact hi65) (show (lc 0 s64).toArray.size = (lc n b).toArray.size from by rw [List.size_toArray, List.size_toArray, lc_len n b HBL.out]; rfl) (all_oneCell_toArray (one_lc n b)) ?_; intro wb hg hgr; have HPn := Aside0.mk (HP.out.setB 0 rfl hgr hg); clear HP; have HP := HPn; clear HPn; clear hg hgr; have hck := HKC.out _ ⟨_, Hp.dropN [_, _, _, _] HP.out⟩))
        clear hck
        refine held_named (S := (fun w' => w'.cell? ⟨g, 5, none⟩ = some (.map (some gm)) ∧ w'.cell? ⟨gx, 0, none⟩ = some (.int .i64 n) ∧ w'.rangeAt gx 1 (u8c b))) (by kernel_rfl) (fun wd9 hwd9 => ?_)
        have HPn := Aside0.mk (HP.out.drewN 1)
        rw [← World.drew_is_drewN, hwd9] at HPn
        clear HP hwd9
        have HP := HPn
        clear HPn
        refine ⟨by (try dsimp only); exact ⟨blk_cell (HP.out.blk 1 rfl) 5, blk_cell (HP.out.blk 0 rfl) 0, range_tail (HP.out.blk 0 rfl)⟩, fun hHeld => ?_⟩
        refine wpAnyH_take (i := 0) (oi := ({ dst := (some 40), op := (Op.move (Operand.tmp 0)), type := 22, pos := "disk.go:127", after := #[], guard := none } : Oper)) (v := ?_) rfl (by kernel_rfl) (by kernel_rfl) (by kernel_rfl) (fun _ _ _ h => h) (Or.inl ⟨by rfl, ?_⟩) hHeld ?_
        rotate_left
        · intro w_ hSw; (try dsimp only at hSw); go_simp; try (with_reducible rfl)
        try simp only [Act.put, List.setIfInBounds_toArray, List.set_cons_zero, List.set_cons_succ]
        refine wpAnyH_take (i := 1) (oi := ({ dst := (some 41), op := (Op.nilCheck (Operand.tmp 40)), type := 0, pos := "disk.go:127", after := #[{ on := 0, ground := Ground.data }], guard := none } : Oper)) (v := ?_) rfl (by kernel_rfl) (by kernel_rfl) (by kernel_rfl) (fun _ _ _ h => h) (Or.inl ⟨by rfl, ?_⟩) hHeld ?_
        rotate_left
        · intro w_ hSw; (try dsimp only at hSw); go_simp; try (with_reducible rfl)
        try simp only [Act.put, List.setIfInBounds_toArray, List.set_cons_zero, List.set_cons_succ]
        refine wpAnyH_take (i := 2) (oi := ({ dst := (some 42), op := (Op.fieldAddr 63 (Operand.tmp 41) 3), type := 0, pos := "disk.go:127", after := #[{ on := 1, ground := Ground.data }], guard := none } : Oper)) (v := ?_) rfl (by kernel_rfl) (by kernel_rfl) (by kernel_rfl) (fun _ _ _ h => h) (Or.inl ⟨by rfl, ?_⟩) hHeld ?_
        rotate_left
        · intro w_ hSw; (try dsimp only at hSw); go_simp; try (with_reducible rfl)
        try simp only [Act.put, List.setIfInBounds_toArray, List.set_cons_zero, List.set_cons_succ]
        refine wpAnyH_take (i := 3) (oi := ({ dst := (some 43), op := (Op.load 60 (Operand.tmp 42)), type := 60, pos := "disk.go:127", after := #[{ on := 2, ground := Ground.data }], guard := none } : Oper)) (v := ?_) rfl (by kernel_rfl) (by kernel_rfl) (by kernel_rfl) (fun _ _ _ h => h) (Or.inl ⟨by rfl, ?_⟩) hHeld ?_
        rotate_left
        · intro w_ hSw; (try dsimp only at hSw); go_simp; try (with_reducible rfl)
        try simp only [Act.put, List.setIfInBounds_toArray, List.set_cons_zero, List.set_cons_succ]
        refine wpAnyH_take (i := 4) (oi := ({ dst := (some 44), op := (Op.fieldAddr 70 (Operand.tmp 8) 0), type := 0, pos := "disk.go:127", after := #[], guard := none } : Oper)) (v := ?_) rfl (by kernel_rfl) (by kernel_rfl) (by kernel_rfl) (fun _ _ _ h => h) (Or.inl ⟨by rfl, ?_⟩) hHeld ?_
        rotate_left
        · intro w_ hSw; (try dsimp only at hSw); go_simp; try (with_reducible rfl)
        try simp only [Act.put, List.setIfInBounds_toArray, List.set_cons_zero, List.set_cons_succ]
        refine wpAnyH_take (i := 5) (oi := ({ dst := (some 45), op := (Op.load 3 (Operand.tmp 44)), type := 3, pos := "disk.go:127", after := #[{ on := 4, ground := Ground.data }], guard := none } : Oper)) (v := ?_) rfl (by kernel_rfl) (by kernel_rfl) (by kernel_rfl) (fun _ _ _ h => h) (Or.inl ⟨by rfl, ?_⟩) hHeld ?_
        rotate_left
        · intro w_ hSw; (try dsimp only at hSw); go_simp; try (with_reducible rfl)
        try simp only [Act.put, List.setIfInBounds_toArray, List.set_cons_zero, List.set_cons_succ]
        refine wpAnyH_take (i := 6) (oi := ({ dst := (some 46), op := (Op.fieldAddr 70 (Operand.tmp 8) 1), type := 0, pos := "disk.go:127", after := #[], guard := none } : Oper)) (v := ?_) rfl (by kernel_rfl) (by kernel_rfl) (by kernel_rfl) (fun _ _ _ h => h) (Or.inl ⟨by rfl, ?_⟩) hHeld ?_
        rotate_left
        · intro w_ hSw; (try dsimp only at hSw); go_simp; try (with_reducible rfl)
        try simp only [Act.put, List.setIfInBounds_toArray, List.set_cons_zero, List.set_cons_succ]
        refine wpAnyH_take (i := 7) (oi := ({ dst := (some 47), op := (Op.load 68 (Operand.tmp 46)), type := 68, pos := "disk.go:127", after := #[{ on := 6, ground := Ground.data }], guard := none } : Oper)) (v := _) rfl (by kernel_rfl) (by kernel_rfl) (by kernel_rfl) (fun _ _ _ h => h) (yieldsIf_load_mid (by rfl) _ _ rfl _ _ rfl _ _ (fun w hw => hw.2.2) hu rfl hi64) hHeld ?_
        try simp only [Act.put, List.setIfInBounds_toArray, List.set_cons_zero, List.set_cons_succ]
        refine wpAnyH_ready (rs := [8]) (by kernel_rfl) (by simp) ?_
        refine AllReadyH.cons (o := ({ dst := none, op := (Op.mapUpdate 60 (Operand.tmp 43) (Operand.tmp 45) (Operand.tmp 47)), type := 0, pos := "disk.go:127", after := #[{ on := 3, ground := Ground.data }, { on := 5, ground := Ground.data }, { on := 7, ground := Ground.data }, { on := 0, ground := Ground.phase }, { on := 1, ground := Ground.phase }, { on := 2, ground := Ground.phase }, { on := 3, ground := Ground.phase }, { on := 4, ground := Ground.phase }, { on := 5, ground := Ground.phase }, { on := 6, ground := Ground.phase }, { on := 7, ground := Ground.phase }], guard := none } : Oper)) rfl (fun K hK => ?_) AllReadyH.nil
        refine st_put HP.out 2 rfl (by rfl) (.tmp 43) (.tmp 45) (.tmp 47) (by rfl) (by rfl) (by rfl) (by rfl) ?_; intro clock2 w3 hpn; clear HP; have HP := Aside0.mk hpn; clear hpn
        clear hHeld
        refine hK.out _ _ ?_ (fun hHeld => ?_)
        · (try dsimp only); exact ⟨blk_cell (HP.out.blk 1 rfl) 5, blk_cell (HP.out.blk 0 rfl) 0, range_tail (HP.out.blk 0 rfl)⟩
        clear hK K
        try simp only [Act.put, List.setIfInBounds_toArray, List.set_cons_zero, List.set_cons_succ]
        refine wpAnyH_done (by kernel_rfl) ?_ _
        have HPd := Aside0.mk HP.out.drop1
        clear HP
        go_wp2_with fail
        go_roundg (gk - 1)
        case measure => have := HK.out; have := (List.getElem?_eq_some_iff.1 HNB.out).1; omega
        case rel => exact ⟨j + 1, x + 1, torn', putM m' n b clock', clock2, rfl, rfl, ⟨by have := HX.out; omega⟩, ⟨by have := HK.out; have := (List.getElem?_eq_some_iff.1 HNB.out).1; omega⟩, HT, ⟨by rw [HG.out, drop_consD _ _ _ HNB.out, look_put']; simp [crashG, HKJ.out]⟩, ⟨by rw [look_put']; exact put1_len HML.out HBL.out⟩, HPd⟩
      | false =>
        have HKJ := Aside0.mk (show ¬ keep[j]? = some true by rw [hkb]; decide)
        clear hx c2 hkb hkc hxt
        go_wp2_with (first | ((with_reducible refine gate_dst (N := 29) rfl ?_); refine ev_elem rfl 70 (.tmp 28) rfl Ab (Ao + x.toNat * 65) rfl (lc n b) HRA.out Try.underlying70 rfl hi65 ?_) | ((with_reducible refine gate_dst (N := 8) rfl ?_); refine ev_alloc rfl 70 rfl (.agg (lc 0 s64).toArray) (by kernel_rfl) ?_; intro gx wa hge hg hb; have HPn := Aside0.mk (HP.out.newB hb hg hge); clear HP; have HP := HPn; clear HPn; clear hge hg hb) | ((with_reducible refine gate_store (t := 70) (p := 8) rfl ?_); refine ev_store rfl 70 (.tmp 8) (.tmp 29) rfl rfl _ rfl (cells := (lc n b).toArray) rfl (HP.out.blk 0 rfl) (by rw [List.size_toArray]; exact hi65) (show (lc 0 s64).toArray.size = (lc n b).toArray.size from by rw [List.size_toArray, List.size_toArray, lc_len n b HBL.out]; rfl) (all_oneCell_toArray (one_lc n b)) ?_; intro wb hg hgr; have HPn := Aside0.mk (HP.out.setB 0 rfl hgr hg); clear HP; have HP := HPn; clear HPn; clear hg hgr; have hck := HKC.out _ ⟨_, Hp.dropN [_, _, _, _] HP.out⟩))
        clear hck
        refine held_named (S := (fun w' => w'.cell? ⟨g, 5, none⟩ = some (.map (some gm)) ∧ w'.cell? ⟨gx, 0, none⟩ = some (.int .i64 n) ∧ w'.heap[gm]? = some (.map (rawM m') clock'))) (by kernel_rfl) (fun wd10 hwd10 => ?_)
        have HPn := Aside0.mk (HP.out.drewN 1)
        rw [← World.drew_is_drewN, hwd10] at HPn
        clear HP hwd10
        have HP := HPn
        clear HPn
        refine ⟨by (try dsimp only); first | exact ⟨blk_cell (HP.out.blk 1 rfl) 5, blk_cell (HP.out.blk 0 rfl) 0, HP.out.blk 2 rfl⟩ | exact ⟨blk_cell (HP.out.blk 2 rfl) 5, blk_cell (HP.out.blk 1 rfl) 0, HP.out.blk 3 rfl⟩, fun hHeld => ?_⟩
        refine wpAnyH_take (i := 0) (oi := ({ dst := (some 48), op := (Op.move (Operand.tmp 0)), type := 22, pos := "disk.go:130", after := #[], guard := none } : Oper)) (v := ?_) rfl (by kernel_rfl) (by kernel_rfl) (by kernel_rfl) (fun _ _ _ h => h) (Or.inl ⟨by rfl, ?_⟩) hHeld ?_
        rotate_left
        · intro w_ hSw; (try dsimp only at hSw); go_simp; try (with_reducible rfl)
        try simp only [Act.put, List.setIfInBounds_toArray, List.set_cons_zero, List.set_cons_succ]
        refine wpAnyH_take (i := 1) (oi := ({ dst := (some 49), op := (Op.nilCheck (Operand.tmp 48)), type := 0, pos := "disk.go:130", after := #[{ on := 0, ground := Ground.data }], guard := none } : Oper)) (v := ?_) rfl (by kernel_rfl) (by kernel_rfl) (by kernel_rfl) (fun _ _ _ h => h) (Or.inl ⟨by rfl, ?_⟩) hHeld ?_
        rotate_left
        · intro w_ hSw; (try dsimp only at hSw); go_simp; try (with_reducible rfl)
        try simp only [Act.put, List.setIfInBounds_toArray, List.set_cons_zero, List.set_cons_succ]
        refine wpAnyH_take (i := 2) (oi := ({ dst := (some 50), op := (Op.fieldAddr 63 (Operand.tmp 49) 3), type := 0, pos := "disk.go:130", after := #[{ on := 1, ground := Ground.data }], guard := none } : Oper)) (v := ?_) rfl (by kernel_rfl) (by kernel_rfl) (by kernel_rfl) (fun _ _ _ h => h) (Or.inl ⟨by rfl, ?_⟩) hHeld ?_
        rotate_left
        · intro w_ hSw; (try dsimp only at hSw); go_simp; try (with_reducible rfl)
        try simp only [Act.put, List.setIfInBounds_toArray, List.set_cons_zero, List.set_cons_succ]
        refine wpAnyH_take (i := 3) (oi := ({ dst := (some 51), op := (Op.load 60 (Operand.tmp 50)), type := 60, pos := "disk.go:130", after := #[{ on := 2, ground := Ground.data }], guard := none } : Oper)) (v := ?_) rfl (by kernel_rfl) (by kernel_rfl) (by kernel_rfl) (fun _ _ _ h => h) (Or.inl ⟨by rfl, ?_⟩) hHeld ?_
        rotate_left
        · intro w_ hSw; (try dsimp only at hSw); go_simp; try (with_reducible rfl)
        try simp only [Act.put, List.setIfInBounds_toArray, List.set_cons_zero, List.set_cons_succ]
        refine wpAnyH_take (i := 4) (oi := ({ dst := (some 52), op := (Op.fieldAddr 70 (Operand.tmp 8) 0), type := 0, pos := "disk.go:130", after := #[], guard := none } : Oper)) (v := ?_) rfl (by kernel_rfl) (by kernel_rfl) (by kernel_rfl) (fun _ _ _ h => h) (Or.inl ⟨by rfl, ?_⟩) hHeld ?_
        rotate_left
        · intro w_ hSw; (try dsimp only at hSw); go_simp; try (with_reducible rfl)
        try simp only [Act.put, List.setIfInBounds_toArray, List.set_cons_zero, List.set_cons_succ]
        refine wpAnyH_take (i := 5) (oi := ({ dst := (some 53), op := (Op.load 3 (Operand.tmp 52)), type := 3, pos := "disk.go:130", after := #[{ on := 4, ground := Ground.data }], guard := none } : Oper)) (v := ?_) rfl (by kernel_rfl) (by kernel_rfl) (by kernel_rfl) (fun _ _ _ h => h) (Or.inl ⟨by rfl, ?_⟩) hHeld ?_
        rotate_left
        · intro w_ hSw; (try dsimp only at hSw); go_simp; try (with_reducible rfl)
        try simp only [Act.put, List.setIfInBounds_toArray, List.set_cons_zero, List.set_cons_succ]
        refine wpAnyH_take (i := 6) (oi := ({ dst := (some 54), op := (Op.lookup 60 (Operand.tmp 51) (Operand.tmp 53) false), type := 68, pos := "disk.go:130", after := #[{ on := 3, ground := Ground.data }, { on := 5, ground := Ground.data }], guard := none } : Oper)) (v := .agg (u8c (look m' n)).toArray) rfl (by kernel_rfl) (by kernel_rfl) (by kernel_rfl) (fun _ _ _ h => h) (Or.inl ⟨by rfl, fun w_ hSw => run_op_look hSw.2.2 (x := .tmp 51) (y := .tmp 53) (by rfl) (by rfl) (by rfl)⟩) hHeld ?_
        try simp only [Act.put, List.setIfInBounds_toArray, List.set_cons_zero, List.set_cons_succ]
        refine wpAnyH_ready (rs := [7]) (by kernel_rfl) (by simp) ?_
        refine AllReadyH.cons (o := ({ dst := (some 9), op := (Op.alloc 68), type := 0, pos := "disk.go:130", after := #[], guard := none } : Oper)) rfl (fun K hK => ?_) AllReadyH.nil
        refine st_alloc (by rfl) 68 (by rfl) (.agg (u8c s64).toArray) (by kernel_rfl) ?_; intro gs wc hge hg hb; have HPn := Aside0.mk (HP.out.newB hb hg hge); clear HP; have HP := HPn; clear HPn; clear hge hg hb
        clear hHeld
        refine hK.out _ _ ?_ (fun hHeld => ?_)
        · (try dsimp only); first | exact ⟨blk_cell (HP.out.blk 1 rfl) 5, blk_cell (HP.out.blk 0 rfl) 0, HP.out.blk 2 rfl⟩ | exact ⟨blk_cell (HP.out.blk 2 rfl) 5, blk_cell (HP.out.blk 1 rfl) 0, HP.out.blk 3 rfl⟩
        clear hK K
        try simp only [Act.put, List.setIfInBounds_toArray, List.set_cons_zero, List.set_cons_succ]
        refine wpAnyH_ready (rs := [8]) (by kernel_rfl) (by simp) ?_
        refine AllReadyH.cons (o := ({ dst := none, op := (Op.store 68 (Operand.tmp 9) (Operand.tmp 54)), type := 0, pos := "disk.go:130", after := #[{ on := 7, ground := Ground.data }, { on := 6, ground := Ground.data }, { on := 0, ground := Ground.phase }, { on := 1, ground := Ground.phase }, { on := 2, ground := Ground.phase }, { on := 3, ground := Ground.phase }, { on := 4, ground := Ground.phase }, { on := 5, ground := Ground.phase }, { on := 6, ground := Ground.phase }, { on := 7, ground := Ground.phase }], guard := none } : Oper)) rfl (fun K hK => ?_) AllReadyH.nil
        refine st_store (by rfl) 68 (.tmp 9) (.tmp 54) (by rfl) (by rfl) _ (by rfl) (cells := (u8c (look m' n)).toArray) (by rfl) (HP.out.blk 0 rfl) (by rw [List.size_toArray, u8c_len, HLM.out]; kernel_rfl) (show (u8c s64).toArray.size = (u8c (look m' n)).toArray.size from by rw [List.size_toArray, List.size_toArray, u8c_len, u8c_len, HLM.out]; rfl) (all_oneCell_toArray (one_u8c _)) ?_; intro wd hg hgr; have HPn := Aside0.mk (HP.out.setB 0 rfl hgr hg); clear HP; have HP := HPn; clear HPn; clear hg hgr
        clear hHeld
        refine hK.out _ _ ?_ (fun hHeld => ?_)
        · (try dsimp only); first | exact ⟨blk_cell (HP.out.blk 1 rfl) 5, blk_cell (HP.out.blk 0 rfl) 0, HP.out.blk 2 rfl⟩ | exact ⟨blk_cell (HP.out.blk 2 rfl) 5, blk_cell (HP.out.blk 1 rfl) 0, HP.out.blk 3 rfl⟩
        clear hK K
        try simp only [Act.put, List.setIfInBounds_toArray, List.set_cons_zero, List.set_cons_succ]
        refine wpAnyH_done (by kernel_rfl) ?_ _
        go_wp2_with fail
        refine held_named (S := (fun _ => True)) (by kernel_rfl) (fun wd11 hwd11 => ?_)
        have HPn := Aside0.mk (HP.out.drewN 1)
        rw [← World.drew_is_drewN, hwd11] at HPn
        clear HP hwd11
        have HP := HPn
        clear HPn
        refine ⟨by (try dsimp only); first | done | trivial, fun hHeld => ?_⟩
        refine wpAnyH_take (i := 0) (oi := ({ dst := (some 55), op := (Op.move (Operand.tmp 2)), type := 3, pos := "disk.go:131", after := #[], guard := none } : Oper)) (v := ?_) rfl (by kernel_rfl) (by kernel_rfl) (by kernel_rfl) (fun _ _ _ h => h) (Or.inl ⟨by rfl, ?_⟩) hHeld ?_
        rotate_left
        · intro w_ hSw; (try dsimp only at hSw); go_simp; try (with_reducible rfl)
        try simp only [Act.put, List.setIfInBounds_toArray, List.set_cons_zero, List.set_cons_succ]
        refine wpAnyH_take (i := 1) (oi := ({ dst := (some 56), op := (Op.slice 68 (Operand.tmp 9) none (some (Operand.tmp 55)) none), type := 27, pos := "disk.go:131", after := #[{ on := 0, ground := Ground.data }], guard := none } : Oper)) (v := ?_) rfl (by kernel_rfl) (by kernel_rfl) (by kernel_rfl) (fun _ _ _ h => h) (Or.inl ⟨by rfl, ?_⟩) hHeld ?_
        rotate_left
        · intro w_ hSw; (try dsimp only at hSw); go_simp; try (with_reducible rfl)
        try simp only [Act.put, List.setIfInBounds_toArray, List.set_cons_zero, List.set_cons_succ]
        refine wpAnyH_take (i := 2) (oi := ({ dst := (some 57), op := (Op.fieldAddr 70 (Operand.tmp 8) 1), type := 0, pos := "disk.go:131", after := #[], guard := none } : Oper)) (v := ?_) rfl (by kernel_rfl) (by kernel_rfl) (by kernel_rfl) (fun _ _ _ h => h) (Or.inl ⟨by rfl, ?_⟩) hHeld ?_
        rotate_left
        · intro w_ hSw; (try dsimp only at hSw); go_simp; try (with_reducible rfl)
        try simp only [Act.put, List.setIfInBounds_toArray, List.set_cons_zero, List.set_cons_succ]
        refine wpAnyH_take (i := 3) (oi := ({ dst := (some 58), op := (Op.move (Operand.tmp 2)), type := 3, pos := "disk.go:131", after := #[], guard := none } : Oper)) (v := ?_) rfl (by kernel_rfl) (by kernel_rfl) (by kernel_rfl) (fun _ _ _ h => h) (Or.inl ⟨by rfl, ?_⟩) hHeld ?_
        rotate_left
        · intro w_ hSw; (try dsimp only at hSw); go_simp; try (with_reducible rfl)
        try simp only [Act.put, List.setIfInBounds_toArray, List.set_cons_zero, List.set_cons_succ]
        refine wpAnyH_take (i := 4) (oi := ({ dst := (some 59), op := (Op.slice 68 (Operand.tmp 57) none (some (Operand.tmp 58)) none), type := 27, pos := "disk.go:131", after := #[{ on := 2, ground := Ground.data }, { on := 3, ground := Ground.data }], guard := none } : Oper)) (v := ?_) rfl (by kernel_rfl) (by kernel_rfl) (by kernel_rfl) (fun _ _ _ h => h) (Or.inl ⟨by rfl, ?_⟩) hHeld ?_
        rotate_left
        · intro w_ hSw; (try dsimp only at hSw); go_simp; try (with_reducible rfl)
        try simp only [Act.put, List.setIfInBounds_toArray, List.set_cons_zero, List.set_cons_succ]
        refine wpAnyH_ready (rs := [5]) (by kernel_rfl) (by simp) ?_
        refine AllReadyH.cons (o := ({ dst := (some 60), op := (Op.call { callee := (Callee.builtin Builtin.copy), args := #[(Operand.tmp 56), (Operand.tmp 59)], argTypes := #[27, 27] }), type := 3, pos := "disk.go:131", after := #[{ on := 1, ground := Ground.data }, { on := 4, ground := Ground.data }], guard := none } : Oper)) rfl (fun K hK => ?_) AllReadyH.nil
        refine st_copy (k := .u8) HP.out 0 (g := gs) (off := 0) (cur := u8c (look m' n)) rfl (by rfl) _ _ 27 27 (by rfl) 5 Try.underlying27 (by kernel_rfl) torn'.toNat 64 (by rfl) (A := some ⟨gx, 1, none⟩) (m := torn'.toNat) (c := 64) (by rfl) (l := b.take torn'.toNat) (by rw [List.length_take, HBL.out]; have := HT.out; omega) (by have h := C_mid (HP.out.blk 1 rfl) torn'.toNat (by rw [HBL.out]; have := HT.out; omega) (by rw [HBL.out]; decide); have e : (b.take torn'.toNat).length = torn'.toNat := (by rw [List.length_take, HBL.out]; have := HT.out; omega); rw [e] at h; exact h) (cs := ((b.take torn'.toNat).take torn'.toNat).map (Value.int .u8)) rfl (by rw [List.length_map, List.length_take, List.length_take, u8c_len, HLM.out, HBL.out]; omega) (n := torn'.toNat) (by rw [List.length_map, List.length_take, List.length_take, HBL.out]; have := HT.out; omega) ?_; intro we hpn; rw [splice_u8c _ _ _ HBL.out HLM.out HT.out.1 HT.out.2] at hpn; clear HP; have HP := Aside0.mk hpn; clear hpn
        clear hHeld
        refine hK.out _ _ ?_ (fun hHeld => ?_)
        · (try dsimp only); first | done | trivial
        clear hK K
        try simp only [Act.put, List.setIfInBounds_toArray, List.set_cons_zero, List.set_cons_succ]
        refine wpAnyH_done (by kernel_rfl) ?_ _
        go_wp2_with fail
        have hi64n : (Try.prog.info? 68).map (·.size) = some (u8c (b.take torn'.toNat ++ (look m' n).drop torn'.toNat)).length := by rw [u8c_len, torn_len HBL.out HLM.out HT.out.1 HT.out.2]; kernel_rfl
        refine held_named (S := (fun w' => w'.cell? ⟨g, 5, none⟩ = some (.map (some gm)) ∧ w'.cell? ⟨gx, 0, none⟩ = some (.int .i64 n) ∧ w'.rangeAt gs 0 (u8c (b.take torn'.toNat ++ (look m' n).drop torn'.toNat)))) (by kernel_rfl) (fun wd12 hwd12 => ?_)
        have HPn := Aside0.mk (HP.out.drewN 1)
        rw [← World.drew_is_drewN, hwd12] at HPn
        clear HP hwd12
        have HP := HPn
        clear HPn
        refine ⟨by (try dsimp only); exact ⟨blk_cell (HP.out.blk 2 rfl) 5, blk_cell (HP.out.blk 1 rfl) 0, rangeB (HP.out.blk 0 rfl)⟩, fun hHeld => ?_⟩
        refine wpAnyH_take (i := 0) (oi := ({ dst := (some 61), op := (Op.move (Operand.tmp 0)), type := 22, pos := "disk.go:132", after := #[], guard := none } : Oper)) (v := ?_) rfl (by kernel_rfl) (by kernel_rfl) (by kernel_rfl) (fun _ _ _ h => h) (Or.inl ⟨by rfl, ?_⟩) hHeld ?_
        rotate_left
        · intro w_ hSw; (try dsimp only at hSw); go_simp; try (with_reducible rfl)
        try simp only [Act.put, List.setIfInBounds_toArray, List.set_cons_zero, List.set_cons_succ]
        refine wpAnyH_take (i := 1) (oi := ({ dst := (some 62), op := (Op.nilCheck (Operand.tmp 61)), type := 0, pos := "disk.go:132", after := #[{ on := 0, ground := Ground.data }], guard := none } : Oper)) (v := ?_) rfl (by kernel_rfl) (by kernel_rfl) (by kernel_rfl) (fun _ _ _ h => h) (Or.inl ⟨by rfl, ?_⟩) hHeld ?_
        rotate_left
        · intro w_ hSw; (try dsimp only at hSw); go_simp; try (with_reducible rfl)
        try simp only [Act.put, List.setIfInBounds_toArray, List.set_cons_zero, List.set_cons_succ]
        refine wpAnyH_take (i := 2) (oi := ({ dst := (some 63), op := (Op.fieldAddr 63 (Operand.tmp 62) 3), type := 0, pos := "disk.go:132", after := #[{ on := 1, ground := Ground.data }], guard := none } : Oper)) (v := ?_) rfl (by kernel_rfl) (by kernel_rfl) (by kernel_rfl) (fun _ _ _ h => h) (Or.inl ⟨by rfl, ?_⟩) hHeld ?_
        rotate_left
        · intro w_ hSw; (try dsimp only at hSw); go_simp; try (with_reducible rfl)
        try simp only [Act.put, List.setIfInBounds_toArray, List.set_cons_zero, List.set_cons_succ]
        refine wpAnyH_take (i := 3) (oi := ({ dst := (some 64), op := (Op.load 60 (Operand.tmp 63)), type := 60, pos := "disk.go:132", after := #[{ on := 2, ground := Ground.data }], guard := none } : Oper)) (v := ?_) rfl (by kernel_rfl) (by kernel_rfl) (by kernel_rfl) (fun _ _ _ h => h) (Or.inl ⟨by rfl, ?_⟩) hHeld ?_
        rotate_left
        · intro w_ hSw; (try dsimp only at hSw); go_simp; try (with_reducible rfl)
        try simp only [Act.put, List.setIfInBounds_toArray, List.set_cons_zero, List.set_cons_succ]
        refine wpAnyH_take (i := 4) (oi := ({ dst := (some 65), op := (Op.fieldAddr 70 (Operand.tmp 8) 0), type := 0, pos := "disk.go:132", after := #[], guard := none } : Oper)) (v := ?_) rfl (by kernel_rfl) (by kernel_rfl) (by kernel_rfl) (fun _ _ _ h => h) (Or.inl ⟨by rfl, ?_⟩) hHeld ?_
        rotate_left
        · intro w_ hSw; (try dsimp only at hSw); go_simp; try (with_reducible rfl)
        try simp only [Act.put, List.setIfInBounds_toArray, List.set_cons_zero, List.set_cons_succ]
        refine wpAnyH_take (i := 5) (oi := ({ dst := (some 66), op := (Op.load 3 (Operand.tmp 65)), type := 3, pos := "disk.go:132", after := #[{ on := 4, ground := Ground.data }], guard := none } : Oper)) (v := ?_) rfl (by kernel_rfl) (by kernel_rfl) (by kernel_rfl) (fun _ _ _ h => h) (Or.inl ⟨by rfl, ?_⟩) hHeld ?_
        rotate_left
        · intro w_ hSw; (try dsimp only at hSw); go_simp; try (with_reducible rfl)
        try simp only [Act.put, List.setIfInBounds_toArray, List.set_cons_zero, List.set_cons_succ]
        refine wpAnyH_take (i := 6) (oi := ({ dst := (some 67), op := (Op.load 68 (Operand.tmp 9)), type := 68, pos := "disk.go:132", after := #[], guard := none } : Oper)) (v := _) rfl (by kernel_rfl) (by kernel_rfl) (by kernel_rfl) (fun _ _ _ h => h) (yieldsIf_load_mid (by rfl) _ _ rfl _ _ rfl _ _ (fun w hw => hw.2.2) hu rfl hi64n) hHeld ?_
        try simp only [Act.put, List.setIfInBounds_toArray, List.set_cons_zero, List.set_cons_succ]
        refine wpAnyH_ready (rs := [7]) (by kernel_rfl) (by simp) ?_
        refine AllReadyH.cons (o := ({ dst := none, op := (Op.mapUpdate 60 (Operand.tmp 64) (Operand.tmp 66) (Operand.tmp 67)), type := 0, pos := "disk.go:132", after := #[{ on := 3, ground := Ground.data }, { on := 5, ground := Ground.data }, { on := 6, ground := Ground.data }, { on := 0, ground := Ground.phase }, { on := 1, ground := Ground.phase }, { on := 2, ground := Ground.phase }, { on := 3, ground := Ground.phase }, { on := 4, ground := Ground.phase }, { on := 5, ground := Ground.phase }, { on := 6, ground := Ground.phase }], guard := none } : Oper)) rfl (fun K hK => ?_) AllReadyH.nil
        refine st_put HP.out 3 rfl (by rfl) (.tmp 64) (.tmp 66) (.tmp 67) (by rfl) (by rfl) (by rfl) (by rfl) ?_; intro clock2 w3 hpn; clear HP; have HP := Aside0.mk hpn; clear hpn
        clear hHeld
        refine hK.out _ _ ?_ (fun hHeld => ?_)
        · (try dsimp only); exact ⟨blk_cell (HP.out.blk 2 rfl) 5, blk_cell (HP.out.blk 1 rfl) 0, rangeB (HP.out.blk 0 rfl)⟩
        clear hK K
        try simp only [Act.put, List.setIfInBounds_toArray, List.set_cons_zero, List.set_cons_succ]
        refine wpAnyH_done (by kernel_rfl) ?_ _
        have HPd := Aside0.mk HP.out.drop1.drop1
        clear HP
        go_wp2_with fail
        go_roundg (gk - 1)
        case measure => have := HK.out; have := (List.getElem?_eq_some_iff.1 HNB.out).1; omega
        case rel => exact ⟨j + 1, x + 1, 0, putM m' n (b.take torn'.toNat ++ (look m' n).drop torn'.toNat) clock', clock2, rfl, rfl, ⟨by have := HX.out; omega⟩, ⟨by have := HK.out; have := (List.getElem?_eq_some_iff.1 HNB.out).1; omega⟩, ⟨by decide⟩, ⟨by rw [HG.out, drop_consD _ _ _ HNB.out, look_put']; simp [crashG, HKJ.out]⟩, ⟨by rw [look_put']; exact put1_len HML.out (torn_len HBL.out HLM.out HT.out.1 HT.out.2)⟩, HPd⟩
    · have d2 : decide (x < (nk : Int)) = false := decide_eq_false (by omega)
      have HKJ := Aside0.mk (show ¬ keep[j]? = some true by rw [List.getElem?_eq_none (by rw [HNK.out]; omega)]; simp)
      clear hx c2 hxt
      go_wp2_with (first | ((with_reducible refine gate_dst (N := 29) rfl ?_); refine ev_elem rfl 70 (.tmp 28) rfl Ab (Ao + x.toNat * 65) rfl (lc n b) HRA.out Try.underlying70 rfl hi65 ?_) | ((with_reducible refine gate_dst (N := 8) rfl ?_); refine ev_alloc rfl 70 rfl (.agg (lc 0 s64).toArray) (by kernel_rfl) ?_; intro gx wa hge hg hb; have HPn := Aside0.mk (HP.out.newB hb hg hge); clear HP; have HP := HPn; clear HPn; clear hge hg hb) | ((with_reducible refine gate_store (t := 70) (p := 8) rfl ?_); refine ev_store rfl 70 (.tmp 8) (.tmp 29) rfl rfl _ rfl (cells := (lc n b).toArray) rfl (HP.out.blk 0 rfl) (by rw [List.size_toArray]; exact hi65) (show (lc 0 s64).toArray.size = (lc n b).toArray.size from by rw [List.size_toArray, List.size_toArray, lc_len n b HBL.out]; rfl) (all_oneCell_toArray (one_lc n b)) ?_; intro wb hg hgr; have HPn := Aside0.mk (HP.out.setB 0 rfl hgr hg); clear HP; have HP := HPn; clear HPn; clear hg hgr))
      refine held_named (S := (fun w' => w'.cell? ⟨g, 5, none⟩ = some (.map (some gm)) ∧ w'.cell? ⟨gx, 0, none⟩ = some (.int .i64 n) ∧ w'.heap[gm]? = some (.map (rawM m') clock'))) (by kernel_rfl) (fun wd10 hwd10 => ?_)
      have HPn := Aside0.mk (HP.out.drewN 1)
      rw [← World.drew_is_drewN, hwd10] at HPn
      clear HP hwd10
      have HP := HPn
      clear HPn
      refine ⟨by (try dsimp only); first | exact ⟨blk_cell (HP.out.blk 1 rfl) 5, blk_cell (HP.out.blk 0 rfl) 0, HP.out.blk 2 rfl⟩ | exact ⟨blk_cell (HP.out.blk 2 rfl) 5, blk_cell (HP.out.blk 1 rfl) 0, HP.out.blk 3 rfl⟩, fun hHeld => ?_⟩
      refine wpAnyH_take (i := 0) (oi := ({ dst := (some 48), op := (Op.move (Operand.tmp 0)), type := 22, pos := "disk.go:130", after := #[], guard := none } : Oper)) (v := ?_) rfl (by kernel_rfl) (by kernel_rfl) (by kernel_rfl) (fun _ _ _ h => h) (Or.inl ⟨by rfl, ?_⟩) hHeld ?_
      rotate_left
      · intro w_ hSw; (try dsimp only at hSw); go_simp; try (with_reducible rfl)
      try simp only [Act.put, List.setIfInBounds_toArray, List.set_cons_zero, List.set_cons_succ]
      refine wpAnyH_take (i := 1) (oi := ({ dst := (some 49), op := (Op.nilCheck (Operand.tmp 48)), type := 0, pos := "disk.go:130", after := #[{ on := 0, ground := Ground.data }], guard := none } : Oper)) (v := ?_) rfl (by kernel_rfl) (by kernel_rfl) (by kernel_rfl) (fun _ _ _ h => h) (Or.inl ⟨by rfl, ?_⟩) hHeld ?_
      rotate_left
      · intro w_ hSw; (try dsimp only at hSw); go_simp; try (with_reducible rfl)
      try simp only [Act.put, List.setIfInBounds_toArray, List.set_cons_zero, List.set_cons_succ]
      refine wpAnyH_take (i := 2) (oi := ({ dst := (some 50), op := (Op.fieldAddr 63 (Operand.tmp 49) 3), type := 0, pos := "disk.go:130", after := #[{ on := 1, ground := Ground.data }], guard := none } : Oper)) (v := ?_) rfl (by kernel_rfl) (by kernel_rfl) (by kernel_rfl) (fun _ _ _ h => h) (Or.inl ⟨by rfl, ?_⟩) hHeld ?_
      rotate_left
      · intro w_ hSw; (try dsimp only at hSw); go_simp; try (with_reducible rfl)
      try simp only [Act.put, List.setIfInBounds_toArray, List.set_cons_zero, List.set_cons_succ]
      refine wpAnyH_take (i := 3) (oi := ({ dst := (some 51), op := (Op.load 60 (Operand.tmp 50)), type := 60, pos := "disk.go:130", after := #[{ on := 2, ground := Ground.data }], guard := none } : Oper)) (v := ?_) rfl (by kernel_rfl) (by kernel_rfl) (by kernel_rfl) (fun _ _ _ h => h) (Or.inl ⟨by rfl, ?_⟩) hHeld ?_
      rotate_left
      · intro w_ hSw; (try dsimp only at hSw); go_simp; try (with_reducible rfl)
      try simp only [Act.put, List.setIfInBounds_toArray, List.set_cons_zero, List.set_cons_succ]
      refine wpAnyH_take (i := 4) (oi := ({ dst := (some 52), op := (Op.fieldAddr 70 (Operand.tmp 8) 0), type := 0, pos := "disk.go:130", after := #[], guard := none } : Oper)) (v := ?_) rfl (by kernel_rfl) (by kernel_rfl) (by kernel_rfl) (fun _ _ _ h => h) (Or.inl ⟨by rfl, ?_⟩) hHeld ?_
      rotate_left
      · intro w_ hSw; (try dsimp only at hSw); go_simp; try (with_reducible rfl)
      try simp only [Act.put, List.setIfInBounds_toArray, List.set_cons_zero, List.set_cons_succ]
      refine wpAnyH_take (i := 5) (oi := ({ dst := (some 53), op := (Op.load 3 (Operand.tmp 52)), type := 3, pos := "disk.go:130", after := #[{ on := 4, ground := Ground.data }], guard := none } : Oper)) (v := ?_) rfl (by kernel_rfl) (by kernel_rfl) (by kernel_rfl) (fun _ _ _ h => h) (Or.inl ⟨by rfl, ?_⟩) hHeld ?_
      rotate_left
      · intro w_ hSw; (try dsimp only at hSw); go_simp; try (with_reducible rfl)
      try simp only [Act.put, List.setIfInBounds_toArray, List.set_cons_zero, List.set_cons_succ]
      refine wpAnyH_take (i := 6) (oi := ({ dst := (some 54), op := (Op.lookup 60 (Operand.tmp 51) (Operand.tmp 53) false), type := 68, pos := "disk.go:130", after := #[{ on := 3, ground := Ground.data }, { on := 5, ground := Ground.data }], guard := none } : Oper)) (v := .agg (u8c (look m' n)).toArray) rfl (by kernel_rfl) (by kernel_rfl) (by kernel_rfl) (fun _ _ _ h => h) (Or.inl ⟨by rfl, fun w_ hSw => run_op_look hSw.2.2 (x := .tmp 51) (y := .tmp 53) (by rfl) (by rfl) (by rfl)⟩) hHeld ?_
      try simp only [Act.put, List.setIfInBounds_toArray, List.set_cons_zero, List.set_cons_succ]
      refine wpAnyH_ready (rs := [7]) (by kernel_rfl) (by simp) ?_
      refine AllReadyH.cons (o := ({ dst := (some 9), op := (Op.alloc 68), type := 0, pos := "disk.go:130", after := #[], guard := none } : Oper)) rfl (fun K hK => ?_) AllReadyH.nil
      refine st_alloc (by rfl) 68 (by rfl) (.agg (u8c s64).toArray) (by kernel_rfl) ?_; intro gs wc hge hg hb; have HPn := Aside0.mk (HP.out.newB hb hg hge); clear HP; have HP := HPn; clear HPn; clear hge hg hb
      clear hHeld
      refine hK.out _ _ ?_ (fun hHeld => ?_)
      · (try dsimp only); first | exact ⟨blk_cell (HP.out.blk 1 rfl) 5, blk_cell (HP.out.blk 0 rfl) 0, HP.out.blk 2 rfl⟩ | exact ⟨blk_cell (HP.out.blk 2 rfl) 5, blk_cell (HP.out.blk 1 rfl) 0, HP.out.blk 3 rfl⟩
      clear hK K
      try simp only [Act.put, List.setIfInBounds_toArray, List.set_cons_zero, List.set_cons_succ]
      refine wpAnyH_ready (rs := [8]) (by kernel_rfl) (by simp) ?_
      refine AllReadyH.cons (o := ({ dst := none, op := (Op.store 68 (Operand.tmp 9) (Operand.tmp 54)), type := 0, pos := "disk.go:130", after := #[{ on := 7, ground := Ground.data }, { on := 6, ground := Ground.data }, { on := 0, ground := Ground.phase }, { on := 1, ground := Ground.phase }, { on := 2, ground := Ground.phase }, { on := 3, ground := Ground.phase }, { on := 4, ground := Ground.phase }, { on := 5, ground := Ground.phase }, { on := 6, ground := Ground.phase }, { on := 7, ground := Ground.phase }], guard := none } : Oper)) rfl (fun K hK => ?_) AllReadyH.nil
      refine st_store (by rfl) 68 (.tmp 9) (.tmp 54) (by rfl) (by rfl) _ (by rfl) (cells := (u8c (look m' n)).toArray) (by rfl) (HP.out.blk 0 rfl) (by rw [List.size_toArray, u8c_len, HLM.out]; kernel_rfl) (show (u8c s64).toArray.size = (u8c (look m' n)).toArray.size from by rw [List.size_toArray, List.size_toArray, u8c_len, u8c_len, HLM.out]; rfl) (all_oneCell_toArray (one_u8c _)) ?_; intro wd hg hgr; have HPn := Aside0.mk (HP.out.setB 0 rfl hgr hg); clear HP; have HP := HPn; clear HPn; clear hg hgr
      clear hHeld
      refine hK.out _ _ ?_ (fun hHeld => ?_)
      · (try dsimp only); first | exact ⟨blk_cell (HP.out.blk 1 rfl) 5, blk_cell (HP.out.blk 0 rfl) 0, HP.out.blk 2 rfl⟩ | exact ⟨blk_cell (HP.out.blk 2 rfl) 5, blk_cell (HP.out.blk 1 rfl) 0, HP.out.blk 3 rfl⟩
      clear hK K
      try simp only [Act.put, List.setIfInBounds_toArray, List.set_cons_zero, List.set_cons_succ]
      refine wpAnyH_done (by kernel_rfl) ?_ _
      go_wp2_with fail
      refine held_named (S := (fun _ => True)) (by kernel_rfl) (fun wd11 hwd11 => ?_)
      have HPn := Aside0.mk (HP.out.drewN 1)
      rw [← World.drew_is_drewN, hwd11] at HPn
      clear HP hwd11
      have HP := HPn
      clear HPn
      refine ⟨by (try dsimp only); first | done | trivial, fun hHeld => ?_⟩
      refine wpAnyH_take (i := 0) (oi := ({ dst := (some 55), op := (Op.move (Operand.tmp 2)), type := 3, pos := "disk.go:131", after := #[], guard := none } : Oper)) (v := ?_) rfl (by kernel_rfl) (by kernel_rfl) (by kernel_rfl) (fun _ _ _ h => h) (Or.inl ⟨by rfl, ?_⟩) hHeld ?_
      rotate_left
      · intro w_ hSw; (try dsimp only at hSw); go_simp; try (with_reducible rfl)
      try simp only [Act.put, List.setIfInBounds_toArray, List.set_cons_zero, List.set_cons_succ]
      refine wpAnyH_take (i := 1) (oi := ({ dst := (some 56), op := (Op.slice 68 (Operand.tmp 9) none (some (Operand.tmp 55)) none), type := 27, pos := "disk.go:131", after := #[{ on := 0, ground := Ground.data }], guard := none } : Oper)) (v := ?_) rfl (by kernel_rfl) (by kernel_rfl) (by kernel_rfl) (fun _ _ _ h => h) (Or.inl ⟨by rfl, ?_⟩) hHeld ?_
      rotate_left
      · intro w_ hSw; (try dsimp only at hSw); go_simp; try (with_reducible rfl)
      try simp only [Act.put, List.setIfInBounds_toArray, List.set_cons_zero, List.set_cons_succ]
      refine wpAnyH_take (i := 2) (oi := ({ dst := (some 57), op := (Op.fieldAddr 70 (Operand.tmp 8) 1), type := 0, pos := "disk.go:131", after := #[], guard := none } : Oper)) (v := ?_) rfl (by kernel_rfl) (by kernel_rfl) (by kernel_rfl) (fun _ _ _ h => h) (Or.inl ⟨by rfl, ?_⟩) hHeld ?_
      rotate_left
      · intro w_ hSw; (try dsimp only at hSw); go_simp; try (with_reducible rfl)
      try simp only [Act.put, List.setIfInBounds_toArray, List.set_cons_zero, List.set_cons_succ]
      refine wpAnyH_take (i := 3) (oi := ({ dst := (some 58), op := (Op.move (Operand.tmp 2)), type := 3, pos := "disk.go:131", after := #[], guard := none } : Oper)) (v := ?_) rfl (by kernel_rfl) (by kernel_rfl) (by kernel_rfl) (fun _ _ _ h => h) (Or.inl ⟨by rfl, ?_⟩) hHeld ?_
      rotate_left
      · intro w_ hSw; (try dsimp only at hSw); go_simp; try (with_reducible rfl)
      try simp only [Act.put, List.setIfInBounds_toArray, List.set_cons_zero, List.set_cons_succ]
      refine wpAnyH_take (i := 4) (oi := ({ dst := (some 59), op := (Op.slice 68 (Operand.tmp 57) none (some (Operand.tmp 58)) none), type := 27, pos := "disk.go:131", after := #[{ on := 2, ground := Ground.data }, { on := 3, ground := Ground.data }], guard := none } : Oper)) (v := ?_) rfl (by kernel_rfl) (by kernel_rfl) (by kernel_rfl) (fun _ _ _ h => h) (Or.inl ⟨by rfl, ?_⟩) hHeld ?_
      rotate_left
      · intro w_ hSw; (try dsimp only at hSw); go_simp; try (with_reducible rfl)
      try simp only [Act.put, List.setIfInBounds_toArray, List.set_cons_zero, List.set_cons_succ]
      refine wpAnyH_ready (rs := [5]) (by kernel_rfl) (by simp) ?_
      refine AllReadyH.cons (o := ({ dst := (some 60), op := (Op.call { callee := (Callee.builtin Builtin.copy), args := #[(Operand.tmp 56), (Operand.tmp 59)], argTypes := #[27, 27] }), type := 3, pos := "disk.go:131", after := #[{ on := 1, ground := Ground.data }, { on := 4, ground := Ground.data }], guard := none } : Oper)) rfl (fun K hK => ?_) AllReadyH.nil
      refine st_copy (k := .u8) HP.out 0 (g := gs) (off := 0) (cur := u8c (look m' n)) rfl (by rfl) _ _ 27 27 (by rfl) 5 Try.underlying27 (by kernel_rfl) torn'.toNat 64 (by rfl) (A := some ⟨gx, 1, none⟩) (m := torn'.toNat) (c := 64) (by rfl) (l := b.take torn'.toNat) (by rw [List.length_take, HBL.out]; have := HT.out; omega) (by have h := C_mid (HP.out.blk 1 rfl) torn'.toNat (by rw [HBL.out]; have := HT.out; omega) (by rw [HBL.out]; decide); have e : (b.take torn'.toNat).length = torn'.toNat := (by rw [List.length_take, HBL.out]; have := HT.out; omega); rw [e] at h; exact h) (cs := ((b.take torn'.toNat).take torn'.toNat).map (Value.int .u8)) rfl (by rw [List.length_map, List.length_take, List.length_take, u8c_len, HLM.out, HBL.out]; omega) (n := torn'.toNat) (by rw [List.length_map, List.length_take, List.length_take, HBL.out]; have := HT.out; omega) ?_; intro we hpn; rw [splice_u8c _ _ _ HBL.out HLM.out HT.out.1 HT.out.2] at hpn; clear HP; have HP := Aside0.mk hpn; clear hpn
      clear hHeld
      refine hK.out _ _ ?_ (fun hHeld => ?_)
      · (try dsimp only); first | done | trivial
      clear hK K
      try simp only [Act.put, List.setIfInBounds_toArray, List.set_cons_zero, List.set_cons_succ]
      refine wpAnyH_done (by kernel_rfl) ?_ _
      go_wp2_with fail
      have hi64n : (Try.prog.info? 68).map (·.size) = some (u8c (b.take torn'.toNat ++ (look m' n).drop torn'.toNat)).length := by rw [u8c_len, torn_len HBL.out HLM.out HT.out.1 HT.out.2]; kernel_rfl
      refine held_named (S := (fun w' => w'.cell? ⟨g, 5, none⟩ = some (.map (some gm)) ∧ w'.cell? ⟨gx, 0, none⟩ = some (.int .i64 n) ∧ w'.rangeAt gs 0 (u8c (b.take torn'.toNat ++ (look m' n).drop torn'.toNat)))) (by kernel_rfl) (fun wd12 hwd12 => ?_)
      have HPn := Aside0.mk (HP.out.drewN 1)
      rw [← World.drew_is_drewN, hwd12] at HPn
      clear HP hwd12
      have HP := HPn
      clear HPn
      refine ⟨by (try dsimp only); exact ⟨blk_cell (HP.out.blk 2 rfl) 5, blk_cell (HP.out.blk 1 rfl) 0, rangeB (HP.out.blk 0 rfl)⟩, fun hHeld => ?_⟩
      refine wpAnyH_take (i := 0) (oi := ({ dst := (some 61), op := (Op.move (Operand.tmp 0)), type := 22, pos := "disk.go:132", after := #[], guard := none } : Oper)) (v := ?_) rfl (by kernel_rfl) (by kernel_rfl) (by kernel_rfl) (fun _ _ _ h => h) (Or.inl ⟨by rfl, ?_⟩) hHeld ?_
      rotate_left
      · intro w_ hSw; (try dsimp only at hSw); go_simp; try (with_reducible rfl)
      try simp only [Act.put, List.setIfInBounds_toArray, List.set_cons_zero, List.set_cons_succ]
      refine wpAnyH_take (i := 1) (oi := ({ dst := (some 62), op := (Op.nilCheck (Operand.tmp 61)), type := 0, pos := "disk.go:132", after := #[{ on := 0, ground := Ground.data }], guard := none } : Oper)) (v := ?_) rfl (by kernel_rfl) (by kernel_rfl) (by kernel_rfl) (fun _ _ _ h => h) (Or.inl ⟨by rfl, ?_⟩) hHeld ?_
      rotate_left
      · intro w_ hSw; (try dsimp only at hSw); go_simp; try (with_reducible rfl)
      try simp only [Act.put, List.setIfInBounds_toArray, List.set_cons_zero, List.set_cons_succ]
      refine wpAnyH_take (i := 2) (oi := ({ dst := (some 63), op := (Op.fieldAddr 63 (Operand.tmp 62) 3), type := 0, pos := "disk.go:132", after := #[{ on := 1, ground := Ground.data }], guard := none } : Oper)) (v := ?_) rfl (by kernel_rfl) (by kernel_rfl) (by kernel_rfl) (fun _ _ _ h => h) (Or.inl ⟨by rfl, ?_⟩) hHeld ?_
      rotate_left
      · intro w_ hSw; (try dsimp only at hSw); go_simp; try (with_reducible rfl)
      try simp only [Act.put, List.setIfInBounds_toArray, List.set_cons_zero, List.set_cons_succ]
      refine wpAnyH_take (i := 3) (oi := ({ dst := (some 64), op := (Op.load 60 (Operand.tmp 63)), type := 60, pos := "disk.go:132", after := #[{ on := 2, ground := Ground.data }], guard := none } : Oper)) (v := ?_) rfl (by kernel_rfl) (by kernel_rfl) (by kernel_rfl) (fun _ _ _ h => h) (Or.inl ⟨by rfl, ?_⟩) hHeld ?_
      rotate_left
      · intro w_ hSw; (try dsimp only at hSw); go_simp; try (with_reducible rfl)
      try simp only [Act.put, List.setIfInBounds_toArray, List.set_cons_zero, List.set_cons_succ]
      refine wpAnyH_take (i := 4) (oi := ({ dst := (some 65), op := (Op.fieldAddr 70 (Operand.tmp 8) 0), type := 0, pos := "disk.go:132", after := #[], guard := none } : Oper)) (v := ?_) rfl (by kernel_rfl) (by kernel_rfl) (by kernel_rfl) (fun _ _ _ h => h) (Or.inl ⟨by rfl, ?_⟩) hHeld ?_
      rotate_left
      · intro w_ hSw; (try dsimp only at hSw); go_simp; try (with_reducible rfl)
      try simp only [Act.put, List.setIfInBounds_toArray, List.set_cons_zero, List.set_cons_succ]
      refine wpAnyH_take (i := 5) (oi := ({ dst := (some 66), op := (Op.load 3 (Operand.tmp 65)), type := 3, pos := "disk.go:132", after := #[{ on := 4, ground := Ground.data }], guard := none } : Oper)) (v := ?_) rfl (by kernel_rfl) (by kernel_rfl) (by kernel_rfl) (fun _ _ _ h => h) (Or.inl ⟨by rfl, ?_⟩) hHeld ?_
      rotate_left
      · intro w_ hSw; (try dsimp only at hSw); go_simp; try (with_reducible rfl)
      try simp only [Act.put, List.setIfInBounds_toArray, List.set_cons_zero, List.set_cons_succ]
      refine wpAnyH_take (i := 6) (oi := ({ dst := (some 67), op := (Op.load 68 (Operand.tmp 9)), type := 68, pos := "disk.go:132", after := #[], guard := none } : Oper)) (v := _) rfl (by kernel_rfl) (by kernel_rfl) (by kernel_rfl) (fun _ _ _ h => h) (yieldsIf_load_mid (by rfl) _ _ rfl _ _ rfl _ _ (fun w hw => hw.2.2) hu rfl hi64n) hHeld ?_
      try simp only [Act.put, List.setIfInBounds_toArray, List.set_cons_zero, List.set_cons_succ]
      refine wpAnyH_ready (rs := [7]) (by kernel_rfl) (by simp) ?_
      refine AllReadyH.cons (o := ({ dst := none, op := (Op.mapUpdate 60 (Operand.tmp 64) (Operand.tmp 66) (Operand.tmp 67)), type := 0, pos := "disk.go:132", after := #[{ on := 3, ground := Ground.data }, { on := 5, ground := Ground.data }, { on := 6, ground := Ground.data }, { on := 0, ground := Ground.phase }, { on := 1, ground := Ground.phase }, { on := 2, ground := Ground.phase }, { on := 3, ground := Ground.phase }, { on := 4, ground := Ground.phase }, { on := 5, ground := Ground.phase }, { on := 6, ground := Ground.phase }], guard := none } : Oper)) rfl (fun K hK => ?_) AllReadyH.nil
      refine st_put HP.out 3 rfl (by rfl) (.tmp 64) (.tmp 66) (.tmp 67) (by rfl) (by rfl) (by rfl) (by rfl) ?_; intro clock2 w3 hpn; clear HP; have HP := Aside0.mk hpn; clear hpn
      clear hHeld
      refine hK.out _ _ ?_ (fun hHeld => ?_)
      · (try dsimp only); exact ⟨blk_cell (HP.out.blk 2 rfl) 5, blk_cell (HP.out.blk 1 rfl) 0, rangeB (HP.out.blk 0 rfl)⟩
      clear hK K
      try simp only [Act.put, List.setIfInBounds_toArray, List.set_cons_zero, List.set_cons_succ]
      refine wpAnyH_done (by kernel_rfl) ?_ _
      have HPd := Aside0.mk HP.out.drop1.drop1
      clear HP
      go_wp2_with fail
      go_roundg (gk - 1)
      case measure => have := HK.out; have := (List.getElem?_eq_some_iff.1 HNB.out).1; omega
      case rel => exact ⟨j + 1, x + 1, 0, putM m' n (b.take torn'.toNat ++ (look m' n).drop torn'.toNat) clock', clock2, rfl, rfl, ⟨by have := HX.out; omega⟩, ⟨by have := HK.out; have := (List.getElem?_eq_some_iff.1 HNB.out).1; omega⟩, ⟨by decide⟩, ⟨by rw [HG.out, drop_consD _ _ _ HNB.out, look_put']; simp [crashG, HKJ.out]⟩, ⟨by rw [look_put']; exact put1_len HML.out (torn_len HBL.out HLM.out HT.out.1 HT.out.2)⟩, HPd⟩
  · have d1 : decide (x < (S.l.length : Int)) = false := decide_eq_false (by omega)
    have HE := Aside0.mk (show look m' = crashG keep S.l 0 torn S.at' by rw [← HM.out.1, HG.out, List.drop_eq_nil_of_le (by omega)]; rfl)
    have HPn := Aside0.mk (HP.out.as 2 rfl (R' := .row KL 70 w0.heap.size (.slice none 0 0) []) fun F hF => ⟨Kd.R_nil _ _ _ _ _, hF.2⟩)
    clear HP
    have HP := HPn
    clear HPn
    have h0 : wr.cell? ⟨g, 0, none⟩ = some (.int .i64 S.steps) := blk_cell (HP.out.blk 0 rfl) 0
    have h1 : wr.cell? ⟨g, 1, none⟩ = some (.int .i64 S.fuse) := blk_cell (HP.out.blk 0 rfl) 1
    have h2 : wr.cell? ⟨g, 2, none⟩ = some (.bool S.out) := blk_cell (HP.out.blk 0 rfl) 2
    have h6 : wr.cell? ⟨g, 6, none⟩ = some (.slice Av S.l.length cv) := blk_cell (HP.out.blk 0 rfl) 6
    have hf0 := blk_frozen (HP.out.blk 0 rfl) 0
    have hf1 := blk_frozen (HP.out.blk 0 rfl) 1
    have hf2 := blk_frozen (HP.out.blk 0 rfl) 2
    have hf6 := blk_frozen (HP.out.blk 0 rfl) 6
    clear hx c1
    go_wp2_with fail
    go_ret
    have h9 := (((HP.out.setCell 0 rfl 6 (.slice none 0 0)).setCell 0 rfl 0 (.int .i64 S.steps)).setCell 0 rfl 1 (.int .i64 (-1))).setCell 0 rfl 2 (.bool false)
    exact ⟨rfl, Hp.closeD { S with fuse := -1, out := false, at' := crashG keep S.l 0 torn S.at', l := [] } (m := m') ⟨HE.out, fun k => by have h := HML.out k; rw [HE.out] at h; exact h⟩ HI.out h9⟩
end Go.Proofs.Ytejfocliopbocaa.D
