import Derived.Test.YtejfocliopbocaaD9
import Derived.Deep.LoopGhost
namespace Go.Proofs.Ytejfocliopbocaa.D
open Go.RowKit Go.Proofs.Ytejfocliopbocaa.XD Go.Proofs.YtejfocliopbocaaW.PrintWords Go.Proofs.YtejfocliopbocaaW.PrintLast Go.Proofs.YtejfocliopbocaaW.PrintMore Go.Proofs.YtejfocliopbocaaXe Go.Proofs.YtejfocliopbocaaXs
set_option linter.unusedVariables false
set_option linter.unusedSimpArgs false
attribute [local go_sem ↓] Go.wp_at_zero Go.wp_at_succ
/-- what is put, one behind the other -/
def putF (at' : Int → List Int) (l : List (Int × List Int)) : Int → List Int := l.foldl (fun f p j => if p.1 = j then p.2 else f j) at'
theorem putF_snoc (at' : Int → List Int) (l : List (Int × List Int)) (n : Int) (b : List Int) : putF at' (l ++ [(n, b)]) = fun j => if n = j then b else putF at' l j := by
  unfold putF
  rw [List.foldl_append]
  rfl
theorem take_snocD {α : Type} (l : List α) (k : Nat) (x : α) (h : l[k]? = some x) : l.take (k + 1) = l.take k ++ [x] := by
  obtain ⟨h1, h2⟩ := List.getElem?_eq_some_iff.1 h
  rw [List.take_succ_eq_append_getElem h1, h2]
theorem lc_len (n : Int) (b : List Int) (hb : b.length = 64) : (lc n b).length = 65 := by rw [lc, List.length_cons, u8c_len, hb]
/-- a row's element is loaded whole -/
theorem ev_elem {P : Program} {ops : Array Oper} {rest : List Oper} {o : Oper} {a : Act} {Q : Exit → Act → World → Prop} {W : World} (hgd : o.guard = none) (ty : TypeId) (x : Operand) (ho : o.op = .load ty x) (b off : Nat) (hx : a.eval x = .pointer (some ⟨b, off, none⟩)) (cs : List Value) (hc : W.rangeAt b off cs) {d : TypeDesc} (hu : P.underlying ty = some d) (hd : d.isRow = true) (hi : (P.info? ty).map (·.size) = some cs.length)
    (h : wpList P ops Q rest (a.put o.dst (.agg cs.toArray)) W) : wpList P ops Q (o :: rest) a W := wpList_load_mid hgd ty x ho b off hx cs d hc hu hd hi h
theorem range_tail {w : World} {g : Nat} {x : Value} {cs : List Value} {t : TypeId} {fr : Nat × Nat} (hg : w.heap[g]? = some (.cells (x :: cs).toArray t fr)) : w.rangeAt g 1 cs := fun j v hv => by
  rw [cell_of_row w g _ _ t fr hg, Nat.add_comm]
  simpa using hv
section
variable {ops : Array Oper} {o : Oper} {a : Act} {Q : Exit → Act → World → Prop} {W w0 : World} {Rs : List Res}
theorem st_put {Kc : Act → World → Prop} (HP : Hp w0 W Rs) (i : Nat) {gm : Nat} {m : List Ent} {clock : Nat} (hi : Rs[i]? = some (.blk gm (.map (rawM m) clock))) (hw : Region.wanted o (yielded ops a.tmps) = true) (x y z : Operand) (ho : o.op = .mapUpdate 60 x y z) (hx : a.eval x = .map (some gm)) {k : Int} (hy : a.eval y = .int .i64 k) {b : List Int} (hz : a.eval z = .agg (u8c b).toArray)
    (h : ∀ clock' w1, Hp w0 w1 (Rs.set i (.blk gm (.map (rawM (putM m k b clock)) clock'))) → Kc (a.put o.dst undef) w1) : if Region.wanted o (yielded ops a.tmps) = true then Oper.wp Try.prog o a W Kc Q else Kc (a.put o.dst undef) W := by
  obtain ⟨clock', hr⟩ := run_put (HP.blk i hi) k b
  rw [if_pos hw]
  unfold Oper.wp execOp
  simp only [ho, hx, hy, hz, Sem.run_bind, hr, Result.andThen_ok]
  exact h clock' _ (Hp.setObj HP i hi)
end
set_option maxHeartbeats 8000000 in
set_option maxRecDepth 100000 in
theorem c_flush1 {w0 w : World} {Rs : List Res} (g gm : Nat) (steps fuse : Int) (many : Int) (m : List Ent) (clock : Nat) (v : Value) (l : List (Int × List Int)) (hl : l.length ≤ 1000000) (b0 : Nat)
    (HP : Hp w0 w (.blk b0 (.cells #[.pointer (some ⟨g, 0, none⟩)] 22 (0, 0)) :: .blk g (.cells (dC steps fuse false true many gm v).toArray 63 (0, 0)) :: .blk gm (.map (rawM m) clock) :: .row KL 70 w0.heap.size v l :: Rs)) :
    Calls Try.prog 33 #[.pointer (some ⟨b0, 0, none⟩)] w fun e w' => e = .returned (.tuple #[]) ∧
      ∃ m' clock', look m' = putF (look m) l ∧ Hp w0 w' (.blk b0 (.cells #[.pointer (some ⟨g, 0, none⟩)] 22 (0, 0)) :: .blk g (.cells (dC steps fuse false true many gm (.slice none 0 0)).toArray 63 (0, 0)) :: .blk gm (.map (rawM m') clock') :: .row KL 70 w0.heap.size (.slice none 0 0) [] :: Rs) := by
  obtain ⟨Av, cv, rfl⟩ := Kd.R_slice (HP.row 3 rfl)
  have HPn := Aside0.mk HP
  clear HP
  have HP := HPn
  clear HPn
  have HL := Aside0.mk hl
  have hll : (l.length : Int) ≤ 1000000 := by omega
  clear hl
  have h0 := blk_cell (HP.out.blk 0 rfl) 0
  have h6 : w.cell? ⟨g, 6, none⟩ = some (.slice Av l.length cv) := blk_cell (HP.out.blk 1 rfl) 6
  go_enter Try.func33, Try.ntmps33
  go_wp2_with fail
  clear h0 h6
  go_loopg [8] l.length (fun kq v8 w' => ∃ (j : Nat) (x : Int) (m' : List Ent) (clock' : Nat), v8 = .int .i64 x ∧ Aside0 (x = (j : Int)) ∧ Aside0 (kq + j = l.length) ∧ Aside0 (look m' = putF (look m) (l.take j)) ∧ Aside0 (Hp w0 w' (.blk b0 (.cells #[.pointer (some ⟨g, 0, none⟩)] 22 (0, 0)) :: .blk g (.cells (dC steps fuse false true many gm (.slice Av l.length cv)).toArray 63 (0, 0)) :: .blk gm (.map (rawM m') clock') :: .row KL 70 w0.heap.size (.slice Av l.length cv) l :: Rs)))
  case atStart => exact ⟨0, 0, m, clock, rfl, ⟨rfl⟩, ⟨rfl⟩, ⟨rfl⟩, HP⟩
  clear HP
  obtain ⟨j, x, m', clock', rfl, HX, HK, HM, HP⟩ := hrel
  have hx := HX.out
  by_cases c1 : j < l.length
  · have d1 : decide (x < (l.length : Int)) = true := decide_eq_true (by omega)
    have ex : IntKind.i64.wrap (x + 1) = x + 1 := IntWalk.i64_in _ (by omega)
    have p0 : 0 ≤ x := by omega
    have q0 : x < (l.length : Int) := by omega
    obtain ⟨⟨n, b⟩, hnb⟩ : ∃ p, l[j]? = some p := ⟨_, List.getElem?_eq_getElem c1⟩
    have hC := (Kd.R_reads' (HP.out.row 3 rfl)).2.2
    obtain ⟨Ab, Ao, rfl⟩ := C_addrK (by decide) hC (by omega)
    obtain ⟨cs, ⟨hcs, hbl⟩, hra⟩ := range_K hC hnb
    have hcs2 : cs = lc n b := hcs
    subst hcs2
    have hxt : x.toNat = j := by omega
    have hra2 : ∀ w', Hp w0 w' (.blk b0 (.cells #[.pointer (some ⟨g, 0, none⟩)] 22 (0, 0)) :: .blk g (.cells (dC steps fuse false true many gm (.slice (some ⟨Ab, Ao, none⟩) l.length cv)).toArray 63 (0, 0)) :: .blk gm (.map (rawM m') clock') :: .row KL 70 w0.heap.size (.slice (some ⟨Ab, Ao, none⟩) l.length cv) l :: Rs) → w'.rangeAt Ab (Ao + x.toNat * 65) (lc n b) := fun w' h => by
      obtain ⟨cs, ⟨hcs, _⟩, hra⟩ := range_K (Kd.R_reads' (h.row 3 rfl)).2.2 hnb
      have hcs2 : cs = lc n b := hcs
      rw [hxt, ← hcs2]
      exact hra
    have HRA := Aside0.mk hra2
    have HNB := Aside0.mk hnb
    have HBL := Aside0.mk hbl
    have hi65 : (Try.prog.info? 70).map (·.size) = some (lc n b).length := by rw [lc_len n b hbl]; kernel_rfl
    have hi64 : (Try.prog.info? 68).map (·.size) = some (u8c b).length := by rw [u8c_len, hbl]; kernel_rfl
    have hu := Try.underlying68
    clear hx c1 hC hra hra2 hxt hnb hbl
    go_wp2_with (first | ((with_reducible refine gate_dst (N := 11) rfl ?_); refine ev_elem rfl 70 (.tmp 10) rfl Ab (Ao + x.toNat * 65) rfl (lc n b) (HRA.out _ HP.out) Try.underlying70 rfl hi65 ?_) | ((with_reducible refine gate_dst (N := 2) rfl ?_); refine ev_alloc rfl 70 rfl (.agg (lc 0 s64).toArray) (by kernel_rfl) ?_; intro gx wa hge hg hb; have HPn := Aside0.mk (HP.out.newB hb hg hge); clear HP; have HP := HPn; clear HPn; clear hge hg hb) | ((with_reducible refine gate_store (t := 70) (p := 2) rfl ?_); refine ev_store rfl 70 (.tmp 2) (.tmp 11) rfl rfl _ rfl (cells := (lc n b).toArray) rfl (HP.out.blk 0 rfl) (by rw [List.size_toArray]; exact hi65) (show (lc 0 s64).toArray.size = (lc n b).toArray.size from by rw [List.size_toArray, List.size_toArray, lc_len n b HBL.out]; rfl) (all_oneCell_toArray (one_lc n b)) ?_; intro wb hg hgr; have HPn := Aside0.mk (HP.out.setB 0 rfl hgr hg); clear HP; have HP := HPn; clear HPn; clear hg hgr))
    refine held_named (S := (fun w' => w'.cell? ⟨b0, 0, none⟩ = some (.pointer (some ⟨g, 0, none⟩)) ∧ w'.cell? ⟨g, 5, none⟩ = some (.map (some gm)) ∧ w'.cell? ⟨gx, 0, none⟩ = some (.int .i64 n) ∧ w'.rangeAt gx 1 (u8c b))) (by kernel_rfl) (fun wd3 hwd3 => ?_)
    have HPn := Aside0.mk (HP.out.drewN 1)
    rw [← World.drew_is_drewN, hwd3] at HPn
    clear HP hwd3
    have HP := HPn
    clear HPn
    refine ⟨by (try dsimp only); exact ⟨blk_cell (HP.out.blk 1 rfl) 0, blk_cell (HP.out.blk 2 rfl) 5, blk_cell (HP.out.blk 0 rfl) 0, range_tail (HP.out.blk 0 rfl)⟩, fun hHeld => ?_⟩
    refine wpAnyH_take (i := 0) (oi := ({ dst := (some 12), op := (Op.load 22 (Operand.tmp 0)), type := 22, pos := "disk.go:99", after := #[], guard := none } : Oper)) (v := ?_) rfl (by kernel_rfl) (by kernel_rfl) (by kernel_rfl) (fun _ _ _ h => h) (Or.inl ⟨by rfl, ?_⟩) hHeld ?_
    rotate_left
    · intro w_ hSw; (try dsimp only at hSw); go_simp; try (with_reducible rfl)
    try simp only [Act.put, List.setIfInBounds_toArray, List.set_cons_zero, List.set_cons_succ]
    refine wpAnyH_take (i := 1) (oi := ({ dst := (some 13), op := (Op.nilCheck (Operand.tmp 12)), type := 0, pos := "disk.go:99", after := #[{ on := 0, ground := Ground.data }], guard := none } : Oper)) (v := ?_) rfl (by kernel_rfl) (by kernel_rfl) (by kernel_rfl) (fun _ _ _ h => h) (Or.inl ⟨by rfl, ?_⟩) hHeld ?_
    rotate_left
    · intro w_ hSw; (try dsimp only at hSw); go_simp; try (with_reducible rfl)
    try simp only [Act.put, List.setIfInBounds_toArray, List.set_cons_zero, List.set_cons_succ]
    refine wpAnyH_take (i := 2) (oi := ({ dst := (some 14), op := (Op.fieldAddr 63 (Operand.tmp 13) 3), type := 0, pos := "disk.go:99", after := #[{ on := 1, ground := Ground.data }], guard := none } : Oper)) (v := ?_) rfl (by kernel_rfl) (by kernel_rfl) (by kernel_rfl) (fun _ _ _ h => h) (Or.inl ⟨by rfl, ?_⟩) hHeld ?_
    rotate_left
    · intro w_ hSw; (try dsimp only at hSw); go_simp; try (with_reducible rfl)
    try simp only [Act.put, List.setIfInBounds_toArray, List.set_cons_zero, List.set_cons_succ]
    refine wpAnyH_take (i := 3) (oi := ({ dst := (some 15), op := (Op.load 60 (Operand.tmp 14)), type := 60, pos := "disk.go:99", after := #[{ on := 2, ground := Ground.data }], guard := none } : Oper)) (v := ?_) rfl (by kernel_rfl) (by kernel_rfl) (by kernel_rfl) (fun _ _ _ h => h) (Or.inl ⟨by rfl, ?_⟩) hHeld ?_
    rotate_left
    · intro w_ hSw; (try dsimp only at hSw); go_simp; try (with_reducible rfl)
    try simp only [Act.put, List.setIfInBounds_toArray, List.set_cons_zero, List.set_cons_succ]
    refine wpAnyH_take (i := 4) (oi := ({ dst := (some 16), op := (Op.fieldAddr 70 (Operand.tmp 2) 0), type := 0, pos := "disk.go:99", after := #[], guard := none } : Oper)) (v := ?_) rfl (by kernel_rfl) (by kernel_rfl) (by kernel_rfl) (fun _ _ _ h => h) (Or.inl ⟨by rfl, ?_⟩) hHeld ?_
    rotate_left
    · intro w_ hSw; (try dsimp only at hSw); go_simp; try (with_reducible rfl)
    try simp only [Act.put, List.setIfInBounds_toArray, List.set_cons_zero, List.set_cons_succ]
    refine wpAnyH_take (i := 5) (oi := ({ dst := (some 17), op := (Op.load 3 (Operand.tmp 16)), type := 3, pos := "disk.go:99", after := #[{ on := 4, ground := Ground.data }], guard := none } : Oper)) (v := ?_) rfl (by kernel_rfl) (by kernel_rfl) (by kernel_rfl) (fun _ _ _ h => h) (Or.inl ⟨by rfl, ?_⟩) hHeld ?_
    rotate_left
    · intro w_ hSw; (try dsimp only at hSw); go_simp; try (with_reducible rfl)
    try simp only [Act.put, List.setIfInBounds_toArray, List.set_cons_zero, List.set_cons_succ]
    refine wpAnyH_take (i := 6) (oi := ({ dst := (some 18), op := (Op.fieldAddr 70 (Operand.tmp 2) 1), type := 0, pos := "disk.go:99", after := #[], guard := none } : Oper)) (v := ?_) rfl (by kernel_rfl) (by kernel_rfl) (by kernel_rfl) (fun _ _ _ h => h) (Or.inl ⟨by rfl, ?_⟩) hHeld ?_
    rotate_left
    · intro w_ hSw; (try dsimp only at hSw); go_simp; try (with_reducible rfl)
    try simp only [Act.put, List.setIfInBounds_toArray, List.set_cons_zero, List.set_cons_succ]
    refine wpAnyH_take (i := 7) (oi := ({ dst := (some 19), op := (Op.load 68 (Operand.tmp 18)), type := 68, pos := "disk.go:99", after := #[{ on := 6, ground := Ground.data }], guard := none } : Oper)) (v := _) rfl (by kernel_rfl) (by kernel_rfl) (by kernel_rfl) (fun _ _ _ h => h) (yieldsIf_load_mid (by rfl) _ _ rfl _ _ rfl _ _ (fun w hw => hw.2.2.2) hu rfl hi64) hHeld ?_
    try simp only [Act.put, List.setIfInBounds_toArray, List.set_cons_zero, List.set_cons_succ]
    refine wpAnyH_ready (rs := [8]) (by kernel_rfl) (by simp) ?_
    refine AllReadyH.cons (o := ({ dst := none, op := (Op.mapUpdate 60 (Operand.tmp 15) (Operand.tmp 17) (Operand.tmp 19)), type := 0, pos := "disk.go:99", after := #[{ on := 3, ground := Ground.data }, { on := 5, ground := Ground.data }, { on := 7, ground := Ground.data }, { on := 0, ground := Ground.phase }, { on := 1, ground := Ground.phase }, { on := 2, ground := Ground.phase }, { on := 3, ground := Ground.phase }, { on := 4, ground := Ground.phase }, { on := 5, ground := Ground.phase }, { on := 6, ground := Ground.phase }, { on := 7, ground := Ground.phase }], guard := none } : Oper)) rfl (fun K hK => ?_) AllReadyH.nil
    refine st_put HP.out 3 rfl (by rfl) (.tmp 15) (.tmp 17) (.tmp 19) (by rfl) (by rfl) (by rfl) (by rfl) ?_; intro clock2 w3 hpn; clear HP; have HP := Aside0.mk hpn; clear hpn
    clear hHeld
    refine hK.out _ _ ?_ (fun hHeld => ?_)
    · (try dsimp only); exact ⟨blk_cell (HP.out.blk 1 rfl) 0, blk_cell (HP.out.blk 2 rfl) 5, blk_cell (HP.out.blk 0 rfl) 0, range_tail (HP.out.blk 0 rfl)⟩
    clear hK K
    try simp only [Act.put, List.setIfInBounds_toArray, List.set_cons_zero, List.set_cons_succ]
    refine wpAnyH_done (by kernel_rfl) ?_ _
    have HPd := Aside0.mk (Hp.drop1 HP.out)
    clear HP
    go_wp2_with fail
    go_roundg (gk - 1)
    case measure => have := HK.out; have := (List.getElem?_eq_some_iff.1 HNB.out).1; omega
    case rel => exact ⟨j + 1, x + 1, putM m' n b clock', clock2, rfl, ⟨by have := HX.out; omega⟩, ⟨by have := HK.out; have := (List.getElem?_eq_some_iff.1 HNB.out).1; omega⟩, ⟨by rw [take_snocD l j _ HNB.out, putF_snoc, ← HM.out]; funext q; exact look_put m' n q b clock'⟩, HPd⟩
  · have d1 : decide (x < (l.length : Int)) = false := decide_eq_false (by omega)
    have HE := Aside0.mk (show look m' = putF (look m) l by rw [HM.out, List.take_of_length_le (by omega)])
    have HPn := Aside0.mk (HP.out.as 3 rfl (R' := .row KL 70 w0.heap.size (.slice none 0 0) []) fun F hF => ⟨Kd.R_nil _ _ _ _ _, hF.2⟩)
    clear HP
    have HP := HPn
    clear HPn
    have h0 := blk_cell (HP.out.blk 0 rfl) 0
    have h6 : wr.cell? ⟨g, 6, none⟩ = some (.slice Av l.length cv) := blk_cell (HP.out.blk 1 rfl) 6
    have hf6 := blk_frozen (HP.out.blk 1 rfl) 6
    clear hx c1
    go_wp2_with fail
    refine bodyPost_end (v := .tuple #[]) (by simp [results, Try.results33, go_sem]) rfl ?_
    exact ⟨rfl, m', clock', HE.out, HP.out.setCell 1 rfl 6 (.slice none 0 0)⟩
end Go.Proofs.Ytejfocliopbocaa.D
