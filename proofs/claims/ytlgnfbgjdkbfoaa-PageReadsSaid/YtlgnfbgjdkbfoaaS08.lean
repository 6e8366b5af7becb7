import Derived.Test.YtlgnfbgjdkbfoaaS06
import Derived.Test.YtlgnfbgjdkbfoaaS02
import Derived.Test.YtlgnfbgjdkbfoaaS03
namespace Go.Proofs.Ytlgnfbgjdkbfoaa.Pg
open Go.RowKit Go.Proofs.Ytlgnfbgjdkbfoaa.XH Go.Proofs.Ytlgnfbgjdkbfoaa.Wd Go.Proofs.YtlgnfbgjdkbfoaaW.PrintWords Go.Proofs.YtlgnfbgjdkbfoaaW.PrintLast Go.Proofs.YtlgnfbgjdkbfoaaW.PrintMore Go.Proofs.YtlgnfbgjdkbfoaaXe Go.Proofs.YtlgnfbgjdkbfoaaXs
set_option linter.unusedVariables false
set_option linter.unusedSimpArgs false
attribute [local go_sem ↓] Go.wp_at_zero Go.wp_at_succ
/-- a link's cells; a pair's -/
def c66 (x : S66) : List Value := [.string x.f0, .int .u8 x.f1.f0, .int .u8 x.f1.f1, .int .u8 x.f1.f2, .int .u8 x.f1.f3, .int .u8 x.f1.f4, .int .u8 x.f1.f5, .int .u8 x.f1.f6, .int .u8 x.f1.f7, .int .u8 x.f1.f8, .int .u8 x.f1.f9, .int .u8 x.f1.f10, .int .u8 x.f1.f11, .int .u8 x.f1.f12, .int .u8 x.f1.f13, .int .u8 x.f1.f14, .int .u8 x.f1.f15, .int .u8 x.f1.f16, .int .u8 x.f1.f17, .int .u8 x.f1.f18, .int .u8 x.f1.f19, .int .u8 x.f1.f20, .int .u8 x.f1.f21, .int .u8 x.f1.f22, .int .u8 x.f1.f23, .int .u8 x.f1.f24, .int .u8 x.f1.f25, .int .u8 x.f1.f26, .int .u8 x.f1.f27, .int .u8 x.f1.f28, .int .u8 x.f1.f29, .int .u8 x.f1.f30, .int .u8 x.f1.f31, .int .i64 x.f2]
def c55 (x : S55) : List Value := [.string x.f0, .string x.f1]
theorem c66_len (x : S66) : (c66 x).length = 34 := rfl
theorem c55_len (x : S55) : (c55 x).length = 2 := rfl
theorem one_c66 (x : S66) : (c66 x).toArray.all (·.oneCell') = true := by simp [c66, Value.oneCell']
theorem one_c55 (x : S55) : (c55 x).toArray.all (·.oneCell') = true := by simp [c55, Value.oneCell']
theorem take_snocD {α : Type} (l : List α) (k : Nat) (x : α) (h : l[k]? = some x) : l.take (k + 1) = l.take k ++ [x] := by
  obtain ⟨h1, h2⟩ := List.getElem?_eq_some_iff.1 h
  rw [List.take_succ_eq_append_getElem h1, h2]
/-- a row's element is loaded whole -/
theorem ev_elem {P : Program} {ops : Array Oper} {rest : List Oper} {o : Oper} {a : Act} {Q : Exit → Act → World → Prop} {W : World} (hgd : o.guard = none) (ty : TypeId) (x : Operand) (ho : o.op = .load ty x) (b off : Nat) (hx : a.eval x = .pointer (some ⟨b, off, none⟩)) (cs : List Value) (hc : W.rangeAt b off cs) {d : TypeDesc} (hu : P.underlying ty = some d) (hd : d.isRow = true) (hi : (P.info? ty).map (·.size) = some cs.length)
    (h : wpList P ops Q rest (a.put o.dst (.agg cs.toArray)) W) : wpList P ops Q (o :: rest) a W := wpList_load_mid hgd ty x ho b off hx cs d hc hu hd hi h
theorem plain_str : Plain Kd.string := fun _ _ _ _ h => h
/-- a row of texts -/
abbrev KS : Kd ByteArray := Kd.string
theorem reps_str (w : World) (base : Nat) (x : ByteArray) : Reps ((Kd.string).M w base (fun _ => False)) Kd.string.sz [x] [.string x] := Kd.reps_scalar (enc := Value.string) [x]
set_option maxHeartbeats 8000000 in
set_option maxRecDepth 100000 in
theorem c_of0 (lv : Int) (A1 : Option Addr) (c1 : Nat) (l1 : List S55) (A2 : Option Addr) (c2 : Nat) (l2 : List S66) (w : World) (hlv : lv = 0) (h1 : k55.C w A1 l1.length l1) (hl : l1.length ≤ 1000000) :
    Calls Try.prog 59 #[.agg #[.int .i64 lv, .slice A1 l1.length c1, .slice A2 l2.length c2]] w fun e w' => ∃ vk, e = .returned (.iface 111 (.agg #[vk, .slice A1 l1.length c1])) ∧ KS.R 9 w' w.heap.size (fun _ => True) vk (l1.map (·.f0)) ∧ Below w.heap.size w w' := by
  have HR := Aside0.mk h1
  have HL := Aside0.mk hl
  have HP := Aside0.mk (Hp.start w)
  have hll : (l1.length : Int) ≤ 1000000 := by omega
  clear h1 hl
  have dlv : decide (lv = 0) = true := decide_eq_true hlv
  go_enter Try.func59, Try.ntmps59
  go_wp2_with (first | ((with_reducible refine gate_dst (N := 1) rfl ?_); refine ev_box rfl 27 (.tmp 0) rfl (#[.int .i64 lv, .slice A1 l1.length c1, .slice A2 l2.length c2]) rfl ?_; intro g1 wa hge hg hb; have HPn := Aside0.mk (HP.out.newB hb hg hge); clear HP; have HP := HPn; clear HPn; clear hge hg hb) | ((with_reducible refine gate_dst (N := 3) rfl ?_); refine ev_alloc rfl 109 rfl (.agg #[.slice none 0 0]) (by kernel_rfl) ?_; intro gn wb hge hg hb; have HPn := Aside0.mk (HP.out.newB hb hg hge); clear HP; have HP := HPn; clear HPn; clear hge hg hb; have hc0 : wb.cell? ⟨g1, 0, none⟩ = some (.int .i64 lv) := blk_cell (HP.out.blk 1 rfl) 0; have hc1 : wb.cell? ⟨g1, 1, none⟩ = some (.slice A1 l1.length c1) := blk_cell (HP.out.blk 1 rfl) 1))
  clear hc0 hc1
  have HPn := Aside0.mk (((HP.out.nilrow KS 9 (.slice none 0 0) (xs := []) (fun ok => Kd.R_nil _ _ _ _ _)).rot1))
  clear HP
  have HP := HPn
  clear HPn
  go_loopg [14] l1.length (fun kq vq w' => ∃ (j : Nat) (x : Int) (vk : Value), vq = .int .i64 x ∧ Aside0 (x = (j : Int)) ∧ Aside0 (kq + j = l1.length) ∧ Aside0 (Hp w w' (.blk gn (.cells #[vk] 109 (0, 0)) :: .row KS 9 w.heap.size (vk) ((l1.take j).map (·.f0)) :: .blk g1 (.cells #[.int .i64 lv, .slice A1 l1.length c1, .slice A2 l2.length c2] 27 (0, 0)) :: [])))
  case atStart => exact ⟨0, 0, .slice none 0 0, rfl, ⟨rfl⟩, ⟨rfl⟩, HP⟩
  clear HP
  obtain ⟨j, x, vk, rfl, HX, HK, HP⟩ := hrel
  have hx := HX.out
  by_cases c1 : j < l1.length
  · have d1 : decide (x < (l1.length : Int)) = true := decide_eq_true (by omega)
    have ex : IntKind.i64.wrap (x + 1) = x + 1 := IntWalk.i64_in _ (by omega)
    have p0 : 0 ≤ x := by omega
    have q0 : x < (l1.length : Int) := by omega
    obtain ⟨y, hy⟩ : ∃ p, l1[j]? = some p := ⟨_, List.getElem?_eq_getElem c1⟩
    obtain ⟨Ab, Ao, rfl⟩ := C_addrK (by decide) HR.out (by omega)
    obtain ⟨cs, hcs, hra⟩ := range_K HR.out hy
    have hcs2 := k55_open hcs
    subst hcs2
    have hxt : x.toNat = j := by omega
    have HRA := Aside0.mk (show w.rangeAt Ab (Ao + x.toNat * Kd.sz k55) (c55 y) from by rw [hxt]; exact hra)
    have HY := Aside0.mk hy
    have hi9 : (Try.prog.info? 55).map (·.size) = some (c55 y).length := by kernel_rfl
    clear hx c1 hy hcs hra hxt
    obtain ⟨Ak, ck, rfl⟩ := Kd.R_slice (HP.out.row 1 rfl)
    generalize hks : (l1.take j).map (·.f0) = ks at HP
    have HKS := Aside0.mk hks
    have HKL := Aside0.mk (show ks.length = j by rw [← hks, List.length_map, List.length_take]; have := HK.out; omega)
    clear hks
    have hcn : wr.cell? ⟨gn, 0, none⟩ = some (.slice Ak ks.length ck) := blk_cell (HP.out.blk 0 rfl) 0
    go_wp2_with (first | ((with_reducible refine gate_dst (N := 17) rfl ?_); refine ev_elem rfl 55 (.tmp 16) rfl Ab (Ao + x.toNat * Kd.sz k55) rfl (c55 y) (fun j_ v_ hv_ => (HP.out.below.cell (World.block_lt_of_cell? w _ (HRA.out j_ v_ hv_))).trans (HRA.out j_ v_ hv_)) Try.underlying55 rfl hi9 ?_) | ((with_reducible refine gate_dst (N := 5) rfl ?_); refine ev_alloc rfl 55 rfl (.agg (c55 z55).toArray) (by kernel_rfl) ?_; intro gx wc hge hg hb; have HPn := Aside0.mk (HP.out.newB hb hg hge); clear HP; have HP := HPn; clear HPn; clear hge hg hb) | ((with_reducible refine gate_store (t := 55) (p := 5) rfl ?_); refine ev_store rfl 55 (.tmp 5) (.tmp 17) rfl rfl _ rfl (cells := (c55 y).toArray) rfl (HP.out.blk 0 rfl) (by rw [List.size_toArray]; exact hi9) rfl (one_c55 y) ?_; intro wd hg hgr; have HPn := Aside0.mk (HP.out.setB 0 rfl hgr hg); clear HP; have HP := HPn; clear HPn; clear hg hgr; have hcx : wd.cell? ⟨gx, 0, none⟩ = some (.string y.f0) := blk_cell (HP.out.blk 0 rfl) 0; have hcn2 : wd.cell? ⟨gn, 0, none⟩ = some (.slice Ak ks.length ck) := blk_cell (HP.out.blk 1 rfl) 0; clear hcn) | ((with_reducible refine gate_dst (N := 23) rfl ?_); have HPn := Aside0.mk (HP.out.lit 9 (d := KS) (xs := [y.f0]) (inner := [.string y.f0]) (reps_str _ _ _) (show (1 : Nat) ≤ 9223372036854775807 by decide)); clear HP; obtain ⟨A_l, hA⟩ : ∃ z : Option Addr, (some ⟨wd.heap.size, 0, none⟩) = z := ⟨_, rfl⟩; obtain ⟨we, hwq⟩ : ∃ z, wd.alloc (.cells #[.string y.f0] 9) = z := ⟨_, rfl⟩; rw [show wd.alloc (.cells ([.string y.f0] : List Value).toArray 9) = we from hwq, hA] at HPn; rw [hwq, hA]; clear hA hwq; have HP := HPn; clear HPn; refine ev_append plain_str HP.out 3 rfl (.tmp 19) (.tmp 22) 44 9 (.string ⟨#[]⟩) 16 rfl Try.underlying44 (by kernel_rfl) rfl (by decide) (by decide) (.slice Ak ks.length ck) ks [y.f0] A_l 1 1 rfl rfl rfl (Kd.R_reads' (HP.out.row 0 rfl)).2.2 (by have := HKL.out; have := HK.out; have := HL.out; omega) ?_; intro va wq hpn; clear HP; have HP := Aside0.mk hpn.drop1.drop1; clear hpn hcx hcn2; obtain ⟨A3, c3, rfl⟩ := Kd.R_slice (HP.out.row 1 rfl); simp only [List.length_append, List.length_cons, List.length_nil, Nat.zero_add] at HP; (try simp only [List.length_append, List.length_cons, List.length_nil, Nat.zero_add]); have hcn3 : wq.cell? ⟨gn, 0, none⟩ = some (.slice Ak ks.length ck) := blk_cell (HP.out.blk 0 rfl) 0; have hf3 := frozC (HP.out.blk 0 rfl) 0))
    have HPn := Aside0.mk (HP.out.setCell 0 rfl 0 (.slice A3 (ks.length + 1) c3))
    clear HP
    go_roundg (gk - 1)
    case measure => have := HK.out; have := (List.getElem?_eq_some_iff.1 HY.out).1; omega
    case rel => exact ⟨j + 1, x + 1, .slice A3 (ks.length + 1) c3, rfl, ⟨by have := HX.out; omega⟩, ⟨by have := HK.out; have := (List.getElem?_eq_some_iff.1 HY.out).1; omega⟩, ⟨by rw [take_snocD l1 j _ HY.out, List.map_append, HKS.out]; exact HPn.out⟩⟩
  · have d1 : decide (x < (l1.length : Int)) = false := decide_eq_false (by omega)
    have HE := Aside0.mk (show (l1.take j).map (·.f0) = l1.map (·.f0) by rw [List.take_of_length_le (by omega)])
    rw [HE.out] at HP
    clear hx c1 HE
    have hcn : wr.cell? ⟨gn, 0, none⟩ = some vk := blk_cell (HP.out.blk 0 rfl) 0
    have hcg : wr.cell? ⟨g1, 1, none⟩ = some (.slice A1 l1.length c1) := blk_cell (HP.out.blk 2 rfl) 1
    go_wp2_with fail
    go_ret
    exact ⟨vk, rfl, HP.out.row 1 rfl, HP.out.below⟩
set_option maxHeartbeats 8000000 in
set_option maxRecDepth 100000 in
theorem c_of1 (lv : Int) (A1 : Option Addr) (c1 : Nat) (l1 : List S55) (A2 : Option Addr) (c2 : Nat) (l2 : List S66) (w : World) (hlv : lv ≠ 0) (h1 : k66.C w A2 l2.length l2) (hl : l2.length ≤ 1000000) :
    Calls Try.prog 59 #[.agg #[.int .i64 lv, .slice A1 l1.length c1, .slice A2 l2.length c2]] w fun e w' => ∃ vk, e = .returned (.iface 113 (.agg #[vk, .slice A2 l2.length c2])) ∧ KS.R 9 w' w.heap.size (fun _ => True) vk (l2.map (·.f0)) ∧ Below w.heap.size w w' := by
  have HR := Aside0.mk h1
  have HL := Aside0.mk hl
  have HP := Aside0.mk (Hp.start w)
  have hll : (l2.length : Int) ≤ 1000000 := by omega
  clear h1 hl
  have dlv : decide (lv = 0) = false := decide_eq_false hlv
  have dl2 : (lv == 0) = false := by simpa using hlv
  go_enter Try.func59, Try.ntmps59
  go_wp2_with (first | ((with_reducible refine gate_dst (N := 1) rfl ?_); refine ev_box rfl 27 (.tmp 0) rfl (#[.int .i64 lv, .slice A1 l1.length c1, .slice A2 l2.length c2]) rfl ?_; intro g1 wa hge hg hb; have HPn := Aside0.mk (HP.out.newB hb hg hge); clear HP; have HP := HPn; clear HPn; clear hge hg hb) | ((with_reducible refine gate_dst (N := 3) rfl ?_); refine ev_alloc rfl 109 rfl (.agg #[.slice none 0 0]) (by kernel_rfl) ?_; intro gn wb hge hg hb; have HPn := Aside0.mk (HP.out.newB hb hg hge); clear HP; have HP := HPn; clear HPn; clear hge hg hb; have hc0 : wb.cell? ⟨g1, 0, none⟩ = some (.int .i64 lv) := blk_cell (HP.out.blk 1 rfl) 0; have hc1 : wb.cell? ⟨g1, 2, none⟩ = some (.slice A2 l2.length c2) := blk_cell (HP.out.blk 1 rfl) 2))
  clear hc0 hc1
  have HPn := Aside0.mk (((HP.out.nilrow KS 9 (.slice none 0 0) (xs := []) (fun ok => Kd.R_nil _ _ _ _ _)).rot1))
  clear HP
  have HP := HPn
  clear HPn
  go_loopg [34] l2.length (fun kq vq w' => ∃ (j : Nat) (x : Int) (vk : Value), vq = .int .i64 x ∧ Aside0 (x = (j : Int)) ∧ Aside0 (kq + j = l2.length) ∧ Aside0 (Hp w w' (.blk gn (.cells #[vk] 109 (0, 0)) :: .row KS 9 w.heap.size (vk) ((l2.take j).map (·.f0)) :: .blk g1 (.cells #[.int .i64 lv, .slice A1 l1.length c1, .slice A2 l2.length c2] 27 (0, 0)) :: [])))
  case atStart => exact ⟨0, 0, .slice none 0 0, rfl, ⟨rfl⟩, ⟨rfl⟩, HP⟩
  clear HP
  obtain ⟨j, x, vk, rfl, HX, HK, HP⟩ := hrel
  have hx := HX.out
  by_cases c1 : j < l2.length
  · have d1 : decide (x < (l2.length : Int)) = true := decide_eq_true (by omega)
    have ex : IntKind.i64.wrap (x + 1) = x + 1 := IntWalk.i64_in _ (by omega)
    have p0 : 0 ≤ x := by omega
    have q0 : x < (l2.length : Int) := by omega
    obtain ⟨y, hy⟩ : ∃ p, l2[j]? = some p := ⟨_, List.getElem?_eq_getElem c1⟩
    obtain ⟨Ab, Ao, rfl⟩ := C_addrK (by decide) HR.out (by omega)
    obtain ⟨cs, hcs, hra⟩ := range_K HR.out hy
    have hcs2 := k66_open hcs
    subst hcs2
    have hxt : x.toNat = j := by omega
    have HRA := Aside0.mk (show w.rangeAt Ab (Ao + x.toNat * Kd.sz k66) (c66 y) from by rw [hxt]; exact hra)
    have HY := Aside0.mk hy
    have hi9 : (Try.prog.info? 66).map (·.size) = some (c66 y).length := by kernel_rfl
    clear hx c1 hy hcs hra hxt
    obtain ⟨Ak, ck, rfl⟩ := Kd.R_slice (HP.out.row 1 rfl)
    generalize hks : (l2.take j).map (·.f0) = ks at HP
    have HKS := Aside0.mk hks
    have HKL := Aside0.mk (show ks.length = j by rw [← hks, List.length_map, List.length_take]; have := HK.out; omega)
    clear hks
    have hcn : wr.cell? ⟨gn, 0, none⟩ = some (.slice Ak ks.length ck) := blk_cell (HP.out.blk 0 rfl) 0
    go_wp2_with (first | ((with_reducible refine gate_dst (N := 37) rfl ?_); refine ev_elem rfl 66 (.tmp 36) rfl Ab (Ao + x.toNat * Kd.sz k66) rfl (c66 y) (fun j_ v_ hv_ => (HP.out.below.cell (World.block_lt_of_cell? w _ (HRA.out j_ v_ hv_))).trans (HRA.out j_ v_ hv_)) Try.underlying66 rfl hi9 ?_) | ((with_reducible refine gate_dst (N := 7) rfl ?_); refine ev_alloc rfl 66 rfl (.agg (c66 z66).toArray) (by kernel_rfl) ?_; intro gx wc hge hg hb; have HPn := Aside0.mk (HP.out.newB hb hg hge); clear HP; have HP := HPn; clear HPn; clear hge hg hb) | ((with_reducible refine gate_store (t := 66) (p := 7) rfl ?_); refine ev_store rfl 66 (.tmp 7) (.tmp 37) rfl rfl _ rfl (cells := (c66 y).toArray) rfl (HP.out.blk 0 rfl) (by rw [List.size_toArray]; exact hi9) rfl (one_c66 y) ?_; intro wd hg hgr; have HPn := Aside0.mk (HP.out.setB 0 rfl hgr hg); clear HP; have HP := HPn; clear HPn; clear hg hgr; have hcx : wd.cell? ⟨gx, 0, none⟩ = some (.string y.f0) := blk_cell (HP.out.blk 0 rfl) 0; have hcn2 : wd.cell? ⟨gn, 0, none⟩ = some (.slice Ak ks.length ck) := blk_cell (HP.out.blk 1 rfl) 0; clear hcn) | ((with_reducible refine gate_dst (N := 43) rfl ?_); have HPn := Aside0.mk (HP.out.lit 9 (d := KS) (xs := [y.f0]) (inner := [.string y.f0]) (reps_str _ _ _) (show (1 : Nat) ≤ 9223372036854775807 by decide)); clear HP; obtain ⟨A_l, hA⟩ : ∃ z : Option Addr, (some ⟨wd.heap.size, 0, none⟩) = z := ⟨_, rfl⟩; obtain ⟨we, hwq⟩ : ∃ z, wd.alloc (.cells #[.string y.f0] 9) = z := ⟨_, rfl⟩; rw [show wd.alloc (.cells ([.string y.f0] : List Value).toArray 9) = we from hwq, hA] at HPn; rw [hwq, hA]; clear hA hwq; have HP := HPn; clear HPn; refine ev_append plain_str HP.out 3 rfl (.tmp 39) (.tmp 42) 44 9 (.string ⟨#[]⟩) 16 rfl Try.underlying44 (by kernel_rfl) rfl (by decide) (by decide) (.slice Ak ks.length ck) ks [y.f0] A_l 1 1 rfl rfl rfl (Kd.R_reads' (HP.out.row 0 rfl)).2.2 (by have := HKL.out; have := HK.out; have := HL.out; omega) ?_; intro va wq hpn; clear HP; have HP := Aside0.mk hpn.drop1.drop1; clear hpn hcx hcn2; obtain ⟨A3, c3, rfl⟩ := Kd.R_slice (HP.out.row 1 rfl); simp only [List.length_append, List.length_cons, List.length_nil, Nat.zero_add] at HP; (try simp only [List.length_append, List.length_cons, List.length_nil, Nat.zero_add]); have hcn3 : wq.cell? ⟨gn, 0, none⟩ = some (.slice Ak ks.length ck) := blk_cell (HP.out.blk 0 rfl) 0; have hf3 := frozC (HP.out.blk 0 rfl) 0))
    have HPn := Aside0.mk (HP.out.setCell 0 rfl 0 (.slice A3 (ks.length + 1) c3))
    clear HP
    go_roundg (gk - 1)
    case measure => have := HK.out; have := (List.getElem?_eq_some_iff.1 HY.out).1; omega
    case rel => exact ⟨j + 1, x + 1, .slice A3 (ks.length + 1) c3, rfl, ⟨by have := HX.out; omega⟩, ⟨by have := HK.out; have := (List.getElem?_eq_some_iff.1 HY.out).1; omega⟩, ⟨by rw [take_snocD l2 j _ HY.out, List.map_append, HKS.out]; exact HPn.out⟩⟩
  · have d1 : decide (x < (l2.length : Int)) = false := decide_eq_false (by omega)
    have HE := Aside0.mk (show (l2.take j).map (·.f0) = l2.map (·.f0) by rw [List.take_of_length_le (by omega)])
    rw [HE.out] at HP
    clear hx c1 HE
    have hcn : wr.cell? ⟨gn, 0, none⟩ = some vk := blk_cell (HP.out.blk 0 rfl) 0
    have hcg : wr.cell? ⟨g1, 2, none⟩ = some (.slice A2 l2.length c2) := blk_cell (HP.out.blk 2 rfl) 2
    go_wp2_with fail
    go_ret
    exact ⟨vk, rfl, HP.out.row 1 rfl, HP.out.below⟩
end Go.Proofs.Ytlgnfbgjdkbfoaa.Pg
namespace Go.Proofs.Ytlgnfbgjdkbfoaa.Pg
open Go.RowKit Go.Proofs.Ytlgnfbgjdkbfoaa.XH Go.Proofs.Ytlgnfbgjdkbfoaa.Wd Go.Proofs.YtlgnfbgjdkbfoaaW.PrintWords Go.Proofs.YtlgnfbgjdkbfoaaW.PrintLast Go.Proofs.YtlgnfbgjdkbfoaaW.PrintMore Go.Proofs.YtlgnfbgjdkbfoaaXe Go.Proofs.YtlgnfbgjdkbfoaaXs
set_option linter.unusedVariables false
set_option linter.unusedSimpArgs false
attribute [local go_sem ↓] Go.wp_at_zero Go.wp_at_succ
/-- may a text be a key -/
def keyOk (k : ByteArray) : Bool := decide (k.toList ≠ []) && decide (k.size ≤ 32)
set_option maxHeartbeats 8000000 in
set_option maxRecDepth 100000 in
theorem c_key (k : ByteArray) (w : World) : Calls Try.prog 60 #[.string k] w fun e w' => e = .returned (.bool (keyOk k)) ∧ w' = w := by
  by_cases c2 : k.toList = ([] : List UInt8)
  · have c2b0 : (k.toList == ([] : List UInt8)) = true := beq_iff_eq.mpr c2
    have c2b1 : (k.toList != ([] : List UInt8)) = false := bne_eq_false_iff_eq.mpr c2
    have hk : keyOk k = false := by simp [keyOk, c2]
    clear c2
    go_enter Try.func60, Try.ntmps60
    go_wp2
    go_ret
    exact ⟨by rw [hk]; rfl, rfl⟩
  · have c2b0 : (k.toList == ([] : List UInt8)) = false := beq_eq_false_iff_ne.mpr c2
    have c2b1 : (k.toList != ([] : List UInt8)) = true := bne_iff_ne.mpr c2
    have hk : keyOk k = decide ((k.size : Int) ≤ 32) := by
      simp only [keyOk, ne_eq, c2, not_false_eq_true, decide_true, Bool.true_and]
      exact decide_eq_decide.2 (by omega)
    clear c2
    go_enter Try.func60, Try.ntmps60
    go_wp2
    go_ret
    exact ⟨by rw [hk]; rfl, rfl⟩
/-- is a pair in its place -/
def pairAt (l : List S55) (j : Nat) (y : S55) : Bool := keyOk y.f0 && decide (y.f1.size ≤ 64) && (decide (j = 0) || Op.bytesLess ((l.getD (j - 1) z55).f0.toList) y.f0.toList)
theorem less_tri : ∀ a b : List UInt8, Op.bytesLess a b = !(Op.bytesLess b a || b == a)
  | [], [] => rfl
  | [], b :: bs => by simp [Op.bytesLess]
  | a :: l, [] => by simp [Op.bytesLess]
  | a :: l, b :: bs => by
    have ih := less_tri l bs
    simp only [Op.bytesLess]
    by_cases h1 : a < b
    · have h2 : ¬ b < a := fun h => absurd (UInt8.lt_trans h1 h) (UInt8.lt_irrefl _)
      have h3 : ¬ b = a := by
        rintro rfl
        exact UInt8.lt_irrefl _ h1
      simp [h1, h2, h3]
    · by_cases h2 : b < a
      · have h3 : ¬ a = b := by
          rintro rfl
          exact UInt8.lt_irrefl _ h2
        simp [h1, h2, h3]
      · have h3 : a = b := UInt8.le_antisymm (UInt8.not_lt.1 h2) (UInt8.not_lt.1 h1)
        subst h3
        simp only [h1, decide_false, Bool.false_or, beq_self_eq_true, Bool.true_and, ih, List.cons_beq_cons]
def pairsTo (l : List S55) (n : Nat) : Bool := (List.range n).all fun j => pairAt l j (l.getD j z55)
/-- why pairs are no state -/
def checkS (l : List S55) : Int := if l.length > 65536 then 3 else if pairsTo l l.length = true then 0 else 2
theorem pairsTo_succ (l : List S55) (j : Nat) : pairsTo l (j + 1) = (pairsTo l j && pairAt l j (l.getD j z55)) := by
  simp only [pairsTo, List.range_succ, List.all_append, List.all_cons, List.all_nil, Bool.and_true]
theorem pairsTo_bad (l : List S55) {j n : Nat} (hj : j < n) (h : pairAt l j (l.getD j z55) = false) : pairsTo l n = false := by
  rw [← Bool.not_eq_true]
  intro ha
  have := List.all_eq_true.1 ha j (List.mem_range.2 hj)
  rw [h] at this
  cases this
set_option maxHeartbeats 8000000 in
set_option maxRecDepth 100000 in
theorem c_check (A : Option Addr) (c : Nat) (l : List S55) (w : World) (h1 : k55.C w A l.length l) (hc : l.length ≤ c) (hl : l.length ≤ 1000000) :
    Calls Try.prog 20 #[.slice A l.length c] w fun e w' => e = .returned (.int .i64 (checkS l)) ∧ Below w.heap.size w w' := by
  have HR := Aside0.mk h1
  have HL := Aside0.mk hl
  have HP := Aside0.mk (Hp.start w)
  have hll : (l.length : Int) ≤ 1000000 := by omega
  clear h1 hl hc
  by_cases c2 : (l.length : Int) > 65536
  · have c2b0 : decide (65536 < (l.length : Int)) = true := decide_eq_true c2
    have HA := Aside0.mk (show checkS l = 3 from by unfold checkS; rw [if_pos (by omega)])
    clear c2
    go_enter Try.func20, Try.ntmps20
    go_wp2_with fail
    go_ret
    exact ⟨by rw [HA.out]; rfl, HP.out.below⟩
  · have c2b0 : decide (65536 < (l.length : Int)) = false := decide_eq_false c2
    have HA := Aside0.mk (show checkS l = (if pairsTo l l.length = true then 0 else 2) from by unfold checkS; rw [if_neg (by omega)])
    clear c2
    go_enter Try.func20, Try.ntmps20
    go_wp2_with fail
    go_loopg [10] l.length (fun kq vq w' => ∃ (j : Nat) (x : Int), vq = .int .i64 x ∧ Aside0 (x = (j : Int)) ∧ Aside0 (kq + j = l.length) ∧ Aside0 (pairsTo l j = true) ∧ Aside0 (Hp w w' []))
    case atStart => exact ⟨0, 0, rfl, ⟨rfl⟩, ⟨rfl⟩, ⟨rfl⟩, HP⟩
    clear HP
    obtain ⟨j, x, rfl, HX, HK, HG, HP⟩ := hrel
    have hx := HX.out
    by_cases c1 : j < l.length
    · have d1 : decide (x < (l.length : Int)) = true := decide_eq_true (by omega)
      have ex : IntKind.i64.wrap (x + 1) = x + 1 := IntWalk.i64_in _ (by omega)
      have p0 : 0 ≤ x := by omega
      have q0 : x < (l.length : Int) := by omega
      obtain ⟨y, hy⟩ : ∃ p, l[j]? = some p := ⟨_, List.getElem?_eq_getElem c1⟩
      obtain ⟨Ab, Ao, rfl⟩ := C_addrK (by decide) HR.out (by omega)
      obtain ⟨cs, hcs, hra⟩ := range_K HR.out hy
      have hcs2 := k55_open hcs
      subst hcs2
      have hxt : x.toNat = j := by omega
      have HRA := Aside0.mk (show w.rangeAt Ab (Ao + x.toNat * Kd.sz k55) (c55 y) from by rw [hxt]; exact hra)
      have HYD := Aside0.mk (show l.getD j z55 = y from by rw [List.getD_eq_getElem?_getD, hy]; rfl)
      have HBAD := Aside0.mk (fun hb : pairAt l j y = false => (show checkS l = 2 from by rw [HA.out, pairsTo_bad l c1 (by rw [HYD.out]; exact hb)]; rfl))
      have HY := Aside0.mk hy
      have hi9 : (Try.prog.info? 55).map (·.size) = some (c55 y).length := by kernel_rfl
      clear hy hcs hra hxt hx
      go_upto_region 6 with (first | ((with_reducible refine gate_dst (N := 14) rfl ?_); refine ev_elem rfl 55 (.tmp 13) rfl Ab (Ao + x.toNat * Kd.sz k55) rfl (c55 y) (fun j_ v_ hv_ => (HP.out.below.cell (World.block_lt_of_cell? w _ (HRA.out j_ v_ hv_))).trans (HRA.out j_ v_ hv_)) Try.underlying55 rfl hi9 ?_) | ((with_reducible refine gate_dst (N := 4) rfl ?_); refine ev_alloc rfl 55 rfl (.agg (c55 z55).toArray) (by kernel_rfl) ?_; intro gx wc hge hg hb; have HPn := Aside0.mk (HP.out.newB hb hg hge); clear HP; have HP := HPn; clear HPn; clear hge hg hb) | ((with_reducible refine gate_store (t := 55) (p := 4) rfl ?_); refine ev_store rfl 55 (.tmp 4) (.tmp 14) rfl rfl _ rfl (cells := (c55 y).toArray) rfl (HP.out.blk 0 rfl) (by rw [List.size_toArray]; exact hi9) rfl (one_c55 y) ?_; intro wd hg hgr; have HPn := Aside0.mk (HP.out.setB 0 rfl hgr hg); clear HP; have HP := HPn; clear HPn; clear hg hgr))
      have hx := HX.out
      by_cases ck : keyOk y.f0 = true
      · have hkey : keyOk y.f0 = true := ck
        clear ck
        by_cases cv : y.f1.size > 64
        · have c11b0 : decide (64 < (y.f1.size : Int)) = true := decide_eq_true (by omega)
          have hq : ¬ (y.f1.size ≤ 64) := by omega
          clear cv hx c1
          refine held_named (S := (fun w' => w'.cell? ⟨gx, 0, none⟩ = some (.string y.f0) ∧ w'.cell? ⟨gx, 1, none⟩ = some (.string y.f1))) (by kernel_rfl) (fun wd6 hwd6 => ?_)
          have HPn := Aside0.mk (HP.out.drewN 1)
          rw [← World.drew_is_drewN, hwd6] at HPn
          clear HP hwd6
          have HP := HPn
          clear HPn
          refine ⟨by (try dsimp only); exact ⟨blk_cell (HP.out.blk 0 rfl) 0, blk_cell (HP.out.blk 0 rfl) 1⟩, fun hHeld => ?_⟩
          refine wpAnyH_take (i := 0) (oi := ({ dst := (some 15), op := (Op.fieldAddr 55 (Operand.tmp 4) 0), type := 0, pos := "cell.go:22", after := #[], guard := none } : Oper)) (v := ?_) rfl (by kernel_rfl) (by kernel_rfl) (by kernel_rfl) (fun _ _ _ h => h) (Or.inl ⟨by rfl, ?_⟩) hHeld ?_
          rotate_left
          · intro w_ hSw; (try dsimp only at hSw); go_simp; try (with_reducible rfl)
          try simp only [Act.put, List.setIfInBounds_toArray, List.set_cons_zero, List.set_cons_succ]
          refine wpAnyH_take (i := 1) (oi := ({ dst := (some 16), op := (Op.load 9 (Operand.tmp 15)), type := 9, pos := "cell.go:22", after := #[{ on := 0, ground := Ground.data }], guard := none } : Oper)) (v := ?_) rfl (by kernel_rfl) (by kernel_rfl) (by kernel_rfl) (fun _ _ _ h => h) (Or.inl ⟨by rfl, ?_⟩) hHeld ?_
          rotate_left
          · intro w_ hSw; (try dsimp only at hSw); go_simp; try (with_reducible rfl)
          try simp only [Act.put, List.setIfInBounds_toArray, List.set_cons_zero, List.set_cons_succ]
          refine wpAnyH_ready (rs := [2]) (by kernel_rfl) (by simp) ?_
          refine AllReadyH.cons (o := ({ dst := (some 17), op := (Op.call { callee := (Callee.value (Operand.func 60)), args := #[(Operand.tmp 16)], argTypes := #[9] }), type := 4, pos := "cell.go:22", after := #[{ on := 1, ground := Ground.data }], guard := none } : Oper)) rfl (fun K hK => ?_) AllReadyH.nil
          go_simp
          go_at_call 60; refine (c_key _ _).mono ?_; rintro e w_ ⟨rfl, rfl⟩; (try rw [hkey])
          go_wp2_with fail
          clear hHeld
          refine hK.out _ _ ?_ (fun hHeld => ?_)
          · (try dsimp only); exact ⟨blk_cell (HP.out.blk 0 rfl) 0, blk_cell (HP.out.blk 0 rfl) 1⟩
          clear hK K
          try simp only [Act.put, List.setIfInBounds_toArray, List.set_cons_zero, List.set_cons_succ]
          refine wpAnyH_take (i := 3) (oi := ({ dst := (some 18), op := (Op.unOp UnOp.not 4 (Operand.tmp 17)), type := 4, pos := "cell.go:22", after := #[{ on := 2, ground := Ground.data }], guard := none } : Oper)) (v := ?_) rfl (by kernel_rfl) (by kernel_rfl) (by kernel_rfl) (fun _ _ _ h => h) (Or.inl ⟨by rfl, ?_⟩) hHeld ?_
          rotate_left
          · intro w_ hSw; (try dsimp only at hSw); go_simp; try (with_reducible rfl)
          try simp only [Act.put, List.setIfInBounds_toArray, List.set_cons_zero, List.set_cons_succ]
          refine wpAnyH_take (i := 4) (oi := ({ dst := (some 19), op := (Op.move (Operand.tmp 18)), type := 4, pos := "cell.go:22", after := #[{ on := 3, ground := Ground.data }, { on := 2, ground := Ground.chain }], guard := none } : Oper)) (v := ?_) rfl (by kernel_rfl) (by kernel_rfl) (by kernel_rfl) (fun _ _ _ h => h) (Or.inl ⟨by rfl, ?_⟩) hHeld ?_
          rotate_left
          · intro w_ hSw; (try dsimp only at hSw); go_simp; try (with_reducible rfl)
          try simp only [Act.put, List.setIfInBounds_toArray, List.set_cons_zero, List.set_cons_succ]
          refine wpAnyH_take (i := 5) (oi := ({ dst := (some 20), op := (Op.fieldAddr 55 (Operand.tmp 4) 1), type := 0, pos := "cell.go:22", after := #[{ on := 4, ground := Ground.guard }], guard := (some (4, false)) } : Oper)) (v := ?_) rfl (by kernel_rfl) (by kernel_rfl) (by kernel_rfl) (fun _ _ _ h => h) (Or.inl ⟨by rfl, ?_⟩) hHeld ?_
          rotate_left
          · intro w_ hSw; (try dsimp only at hSw); go_simp; try (with_reducible rfl)
          try simp only [Act.put, List.setIfInBounds_toArray, List.set_cons_zero, List.set_cons_succ]
          refine wpAnyH_take (i := 6) (oi := ({ dst := (some 21), op := (Op.load 9 (Operand.tmp 20)), type := 9, pos := "cell.go:22", after := #[{ on := 5, ground := Ground.data }, { on := 4, ground := Ground.guard }], guard := (some (4, false)) } : Oper)) (v := ?_) rfl (by kernel_rfl) (by kernel_rfl) (by kernel_rfl) (fun _ _ _ h => h) (Or.inl ⟨by rfl, ?_⟩) hHeld ?_
          rotate_left
          · intro w_ hSw; (try dsimp only at hSw); go_simp; try (with_reducible rfl)
          try simp only [Act.put, List.setIfInBounds_toArray, List.set_cons_zero, List.set_cons_succ]
          refine wpAnyH_take (i := 7) (oi := ({ dst := (some 22), op := (Op.call { callee := (Callee.builtin Builtin.len), args := #[(Operand.tmp 21)], argTypes := #[9] }), type := 3, pos := "cell.go:22", after := #[{ on := 6, ground := Ground.data }, { on := 4, ground := Ground.guard }], guard := (some (4, false)) } : Oper)) (v := ?_) rfl (by kernel_rfl) (by kernel_rfl) (by kernel_rfl) (fun _ _ _ h => h) (Or.inl ⟨by rfl, ?_⟩) hHeld ?_
          rotate_left
          · intro w_ hSw; (try dsimp only at hSw); go_simp; try (with_reducible rfl)
          try simp only [Act.put, List.setIfInBounds_toArray, List.set_cons_zero, List.set_cons_succ]
          refine wpAnyH_take (i := 8) (oi := ({ dst := (some 23), op := (Op.binOp BinOp.gtr 3 (Operand.tmp 22) (Operand.const (Value.int IntKind.i64 64)) 3), type := 4, pos := "cell.go:22", after := #[{ on := 7, ground := Ground.data }, { on := 4, ground := Ground.guard }], guard := (some (4, false)) } : Oper)) (v := ?_) rfl (by kernel_rfl) (by kernel_rfl) (by kernel_rfl) (fun _ _ _ h => h) (Or.inl ⟨by rfl, ?_⟩) hHeld ?_
          rotate_left
          · intro w_ hSw; (try dsimp only at hSw); go_simp; try (with_reducible rfl)
          try simp only [Act.put, List.setIfInBounds_toArray, List.set_cons_zero, List.set_cons_succ]
          refine wpAnyH_take (i := 9) (oi := ({ dst := (some 24), op := (Op.pick (Operand.tmp 19) (Operand.const (Value.bool true)) (Operand.tmp 23)), type := 4, pos := "cell.go:22", after := #[{ on := 4, ground := Ground.data }, { on := 8, ground := Ground.data }], guard := none } : Oper)) (v := ?_) rfl (by kernel_rfl) (by kernel_rfl) (by kernel_rfl) (fun _ _ _ h => h) (Or.inl ⟨by rfl, ?_⟩) hHeld ?_
          rotate_left
          · intro w_ hSw; (try dsimp only at hSw); go_simp; try (with_reducible rfl)
          try simp only [Act.put, List.setIfInBounds_toArray, List.set_cons_zero, List.set_cons_succ]
          refine wpAnyH_take (i := 10) (oi := ({ dst := (some 25), op := (Op.move (Operand.tmp 24)), type := 4, pos := "cell.go:22", after := #[{ on := 9, ground := Ground.data }, { on := 4, ground := Ground.chain }], guard := none } : Oper)) (v := ?_) rfl (by kernel_rfl) (by kernel_rfl) (by kernel_rfl) (fun _ _ _ h => h) (Or.inl ⟨by rfl, ?_⟩) hHeld ?_
          rotate_left
          · intro w_ hSw; (try dsimp only at hSw); go_simp; try (with_reducible rfl)
          try simp only [Act.put, List.setIfInBounds_toArray, List.set_cons_zero, List.set_cons_succ]
          refine wpAnyH_take (i := 11) (oi := ({ dst := (some 26), op := (Op.move (Operand.tmp 3)), type := 3, pos := "cell.go:22", after := #[{ on := 10, ground := Ground.guard }], guard := (some (10, false)) } : Oper)) (v := _) rfl (by kernel_rfl) (by kernel_rfl) (by kernel_rfl) (fun _ _ _ h => h) (Or.inr ⟨by rfl, rfl⟩) hHeld ?_
          try simp only [Act.put, List.setIfInBounds_toArray, List.set_cons_zero, List.set_cons_succ]
          refine wpAnyH_take (i := 12) (oi := ({ dst := (some 27), op := (Op.binOp BinOp.gtr 3 (Operand.tmp 26) (Operand.const (Value.int IntKind.i64 0)) 3), type := 4, pos := "cell.go:22", after := #[{ on := 11, ground := Ground.data }, { on := 10, ground := Ground.guard }], guard := (some (10, false)) } : Oper)) (v := _) rfl (by kernel_rfl) (by kernel_rfl) (by kernel_rfl) (fun _ _ _ h => h) (Or.inr ⟨by rfl, rfl⟩) hHeld ?_
          try simp only [Act.put, List.setIfInBounds_toArray, List.set_cons_zero, List.set_cons_succ]
          refine wpAnyH_take (i := 13) (oi := ({ dst := (some 28), op := (Op.move (Operand.tmp 27)), type := 4, pos := "cell.go:22", after := #[{ on := 12, ground := Ground.data }, { on := 10, ground := Ground.chain }, { on := 10, ground := Ground.guard }], guard := (some (10, false)) } : Oper)) (v := _) rfl (by kernel_rfl) (by kernel_rfl) (by kernel_rfl) (fun _ _ _ h => h) (Or.inr ⟨by rfl, rfl⟩) hHeld ?_
          try simp only [Act.put, List.setIfInBounds_toArray, List.set_cons_zero, List.set_cons_succ]
          refine wpAnyH_take (i := 14) (oi := ({ dst := (some 29), op := (Op.fieldAddr 55 (Operand.tmp 4) 0), type := 0, pos := "cell.go:22", after := #[{ on := 13, ground := Ground.guard }], guard := (some (13, true)) } : Oper)) (v := _) rfl (by kernel_rfl) (by kernel_rfl) (by kernel_rfl) (fun _ _ _ h => h) (Or.inr ⟨by rfl, rfl⟩) hHeld ?_
          try simp only [Act.put, List.setIfInBounds_toArray, List.set_cons_zero, List.set_cons_succ]
          refine wpAnyH_take (i := 15) (oi := ({ dst := (some 30), op := (Op.load 9 (Operand.tmp 29)), type := 9, pos := "cell.go:22", after := #[{ on := 14, ground := Ground.data }, { on := 13, ground := Ground.guard }], guard := (some (13, true)) } : Oper)) (v := _) rfl (by kernel_rfl) (by kernel_rfl) (by kernel_rfl) (fun _ _ _ h => h) (Or.inr ⟨by rfl, rfl⟩) hHeld ?_
          try simp only [Act.put, List.setIfInBounds_toArray, List.set_cons_zero, List.set_cons_succ]
          refine wpAnyH_take (i := 16) (oi := ({ dst := (some 31), op := (Op.move (Operand.tmp 0)), type := 24, pos := "cell.go:22", after := #[{ on := 13, ground := Ground.guard }], guard := (some (13, true)) } : Oper)) (v := _) rfl (by kernel_rfl) (by kernel_rfl) (by kernel_rfl) (fun _ _ _ h => h) (Or.inr ⟨by rfl, rfl⟩) hHeld ?_
          try simp only [Act.put, List.setIfInBounds_toArray, List.set_cons_zero, List.set_cons_succ]
          refine wpAnyH_take (i := 17) (oi := ({ dst := (some 32), op := (Op.move (Operand.tmp 3)), type := 3, pos := "cell.go:22", after := #[{ on := 13, ground := Ground.guard }], guard := (some (13, true)) } : Oper)) (v := _) rfl (by kernel_rfl) (by kernel_rfl) (by kernel_rfl) (fun _ _ _ h => h) (Or.inr ⟨by rfl, rfl⟩) hHeld ?_
          try simp only [Act.put, List.setIfInBounds_toArray, List.set_cons_zero, List.set_cons_succ]
          refine wpAnyH_take (i := 18) (oi := ({ dst := (some 33), op := (Op.binOp BinOp.sub 3 (Operand.tmp 32) (Operand.const (Value.int IntKind.i64 1)) 3), type := 3, pos := "cell.go:22", after := #[{ on := 17, ground := Ground.data }, { on := 13, ground := Ground.guard }], guard := (some (13, true)) } : Oper)) (v := _) rfl (by kernel_rfl) (by kernel_rfl) (by kernel_rfl) (fun _ _ _ h => h) (Or.inr ⟨by rfl, rfl⟩) hHeld ?_
          try simp only [Act.put, List.setIfInBounds_toArray, List.set_cons_zero, List.set_cons_succ]
          refine wpAnyH_take (i := 19) (oi := ({ dst := (some 34), op := (Op.indexAddr 24 (Operand.tmp 31) (Operand.tmp 33)), type := 0, pos := "cell.go:22", after := #[{ on := 16, ground := Ground.data }, { on := 18, ground := Ground.data }, { on := 13, ground := Ground.guard }], guard := (some (13, true)) } : Oper)) (v := _) rfl (by kernel_rfl) (by kernel_rfl) (by kernel_rfl) (fun _ _ _ h => h) (Or.inr ⟨by rfl, rfl⟩) hHeld ?_
          try simp only [Act.put, List.setIfInBounds_toArray, List.set_cons_zero, List.set_cons_succ]
          refine wpAnyH_take (i := 20) (oi := ({ dst := (some 35), op := (Op.fieldAddr 55 (Operand.tmp 34) 0), type := 0, pos := "cell.go:22", after := #[{ on := 19, ground := Ground.data }, { on := 13, ground := Ground.guard }], guard := (some (13, true)) } : Oper)) (v := _) rfl (by kernel_rfl) (by kernel_rfl) (by kernel_rfl) (fun _ _ _ h => h) (Or.inr ⟨by rfl, rfl⟩) hHeld ?_
          try simp only [Act.put, List.setIfInBounds_toArray, List.set_cons_zero, List.set_cons_succ]
          refine wpAnyH_take (i := 21) (oi := ({ dst := (some 36), op := (Op.load 9 (Operand.tmp 35)), type := 9, pos := "cell.go:22", after := #[{ on := 20, ground := Ground.data }, { on := 13, ground := Ground.guard }], guard := (some (13, true)) } : Oper)) (v := _) rfl (by kernel_rfl) (by kernel_rfl) (by kernel_rfl) (fun _ _ _ h => h) (Or.inr ⟨by rfl, rfl⟩) hHeld ?_
          try simp only [Act.put, List.setIfInBounds_toArray, List.set_cons_zero, List.set_cons_succ]
          refine wpAnyH_take (i := 22) (oi := ({ dst := (some 37), op := (Op.binOp BinOp.leq 9 (Operand.tmp 30) (Operand.tmp 36) 9), type := 4, pos := "cell.go:22", after := #[{ on := 15, ground := Ground.data }, { on := 21, ground := Ground.data }, { on := 13, ground := Ground.guard }], guard := (some (13, true)) } : Oper)) (v := _) rfl (by kernel_rfl) (by kernel_rfl) (by kernel_rfl) (fun _ _ _ h => h) (Or.inr ⟨by rfl, rfl⟩) hHeld ?_
          try simp only [Act.put, List.setIfInBounds_toArray, List.set_cons_zero, List.set_cons_succ]
          refine wpAnyH_take (i := 23) (oi := ({ dst := (some 38), op := (Op.pick (Operand.tmp 28) (Operand.tmp 37) (Operand.const (Value.bool false))), type := 4, pos := "cell.go:22", after := #[{ on := 13, ground := Ground.data }, { on := 22, ground := Ground.data }, { on := 10, ground := Ground.guard }], guard := (some (10, false)) } : Oper)) (v := _) rfl (by kernel_rfl) (by kernel_rfl) (by kernel_rfl) (fun _ _ _ h => h) (Or.inr ⟨by rfl, rfl⟩) hHeld ?_
          try simp only [Act.put, List.setIfInBounds_toArray, List.set_cons_zero, List.set_cons_succ]
          refine wpAnyH_take (i := 24) (oi := ({ dst := (some 39), op := (Op.pick (Operand.tmp 25) (Operand.const (Value.bool true)) (Operand.tmp 38)), type := 4, pos := "cell.go:22", after := #[{ on := 10, ground := Ground.data }, { on := 23, ground := Ground.data }], guard := none } : Oper)) (v := ?_) rfl (by kernel_rfl) (by kernel_rfl) (by kernel_rfl) (fun _ _ _ h => h) (Or.inl ⟨by rfl, ?_⟩) hHeld ?_
          rotate_left
          · intro w_ hSw; (try dsimp only at hSw); go_simp; try (with_reducible rfl)
          try simp only [Act.put, List.setIfInBounds_toArray, List.set_cons_zero, List.set_cons_succ]
          refine wpAnyH_done (by kernel_rfl) ?_ _
          go_wp2_with fail
          go_ret
          exact ⟨by rw [HBAD.out (by (try rw [hpd]); simp [pairAt, *])]; rfl, HP.out.below⟩
        · have c11b0 : decide (64 < (y.f1.size : Int)) = false := decide_eq_false (by omega)
          have hq : y.f1.size ≤ 64 := by omega
          clear cv
          by_cases c0 : j = 0
          · have c0b : decide (0 < x) = false := decide_eq_false (by omega)
            clear hx c1
            refine held_named (S := (fun w' => w'.cell? ⟨gx, 0, none⟩ = some (.string y.f0) ∧ w'.cell? ⟨gx, 1, none⟩ = some (.string y.f1))) (by kernel_rfl) (fun wd6 hwd6 => ?_)
            have HPn := Aside0.mk (HP.out.drewN 1)
            rw [← World.drew_is_drewN, hwd6] at HPn
            clear HP hwd6
            have HP := HPn
            clear HPn
            refine ⟨by (try dsimp only); exact ⟨blk_cell (HP.out.blk 0 rfl) 0, blk_cell (HP.out.blk 0 rfl) 1⟩, fun hHeld => ?_⟩
            refine wpAnyH_take (i := 0) (oi := ({ dst := (some 15), op := (Op.fieldAddr 55 (Operand.tmp 4) 0), type := 0, pos := "cell.go:22", after := #[], guard := none } : Oper)) (v := ?_) rfl (by kernel_rfl) (by kernel_rfl) (by kernel_rfl) (fun _ _ _ h => h) (Or.inl ⟨by rfl, ?_⟩) hHeld ?_
            rotate_left
            · intro w_ hSw; (try dsimp only at hSw); go_simp; try (with_reducible rfl)
            try simp only [Act.put, List.setIfInBounds_toArray, List.set_cons_zero, List.set_cons_succ]
            refine wpAnyH_take (i := 1) (oi := ({ dst := (some 16), op := (Op.load 9 (Operand.tmp 15)), type := 9, pos := "cell.go:22", after := #[{ on := 0, ground := Ground.data }], guard := none } : Oper)) (v := ?_) rfl (by kernel_rfl) (by kernel_rfl) (by kernel_rfl) (fun _ _ _ h => h) (Or.inl ⟨by rfl, ?_⟩) hHeld ?_
            rotate_left
            · intro w_ hSw; (try dsimp only at hSw); go_simp; try (with_reducible rfl)
            try simp only [Act.put, List.setIfInBounds_toArray, List.set_cons_zero, List.set_cons_succ]
            refine wpAnyH_ready (rs := [2]) (by kernel_rfl) (by simp) ?_
            refine AllReadyH.cons (o := ({ dst := (some 17), op := (Op.call { callee := (Callee.value (Operand.func 60)), args := #[(Operand.tmp 16)], argTypes := #[9] }), type := 4, pos := "cell.go:22", after := #[{ on := 1, ground := Ground.data }], guard := none } : Oper)) rfl (fun K hK => ?_) AllReadyH.nil
            go_simp
            go_at_call 60; refine (c_key _ _).mono ?_; rintro e w_ ⟨rfl, rfl⟩; (try rw [hkey])
            go_wp2_with fail
            clear hHeld
            refine hK.out _ _ ?_ (fun hHeld => ?_)
            · (try dsimp only); exact ⟨blk_cell (HP.out.blk 0 rfl) 0, blk_cell (HP.out.blk 0 rfl) 1⟩
            clear hK K
            try simp only [Act.put, List.setIfInBounds_toArray, List.set_cons_zero, List.set_cons_succ]
            refine wpAnyH_take (i := 3) (oi := ({ dst := (some 18), op := (Op.unOp UnOp.not 4 (Operand.tmp 17)), type := 4, pos := "cell.go:22", after := #[{ on := 2, ground := Ground.data }], guard := none } : Oper)) (v := ?_) rfl (by kernel_rfl) (by kernel_rfl) (by kernel_rfl) (fun _ _ _ h => h) (Or.inl ⟨by rfl, ?_⟩) hHeld ?_
            rotate_left
            · intro w_ hSw; (try dsimp only at hSw); go_simp; try (with_reducible rfl)
            try simp only [Act.put, List.setIfInBounds_toArray, List.set_cons_zero, List.set_cons_succ]
            refine wpAnyH_take (i := 4) (oi := ({ dst := (some 19), op := (Op.move (Operand.tmp 18)), type := 4, pos := "cell.go:22", after := #[{ on := 3, ground := Ground.data }, { on := 2, ground := Ground.chain }], guard := none } : Oper)) (v := ?_) rfl (by kernel_rfl) (by kernel_rfl) (by kernel_rfl) (fun _ _ _ h => h) (Or.inl ⟨by rfl, ?_⟩) hHeld ?_
            rotate_left
            · intro w_ hSw; (try dsimp only at hSw); go_simp; try (with_reducible rfl)
            try simp only [Act.put, List.setIfInBounds_toArray, List.set_cons_zero, List.set_cons_succ]
            refine wpAnyH_take (i := 5) (oi := ({ dst := (some 20), op := (Op.fieldAddr 55 (Operand.tmp 4) 1), type := 0, pos := "cell.go:22", after := #[{ on := 4, ground := Ground.guard }], guard := (some (4, false)) } : Oper)) (v := ?_) rfl (by kernel_rfl) (by kernel_rfl) (by kernel_rfl) (fun _ _ _ h => h) (Or.inl ⟨by rfl, ?_⟩) hHeld ?_
            rotate_left
            · intro w_ hSw; (try dsimp only at hSw); go_simp; try (with_reducible rfl)
            try simp only [Act.put, List.setIfInBounds_toArray, List.set_cons_zero, List.set_cons_succ]
            refine wpAnyH_take (i := 6) (oi := ({ dst := (some 21), op := (Op.load 9 (Operand.tmp 20)), type := 9, pos := "cell.go:22", after := #[{ on := 5, ground := Ground.data }, { on := 4, ground := Ground.guard }], guard := (some (4, false)) } : Oper)) (v := ?_) rfl (by kernel_rfl) (by kernel_rfl) (by kernel_rfl) (fun _ _ _ h => h) (Or.inl ⟨by rfl, ?_⟩) hHeld ?_
            rotate_left
            · intro w_ hSw; (try dsimp only at hSw); go_simp; try (with_reducible rfl)
            try simp only [Act.put, List.setIfInBounds_toArray, List.set_cons_zero, List.set_cons_succ]
            refine wpAnyH_take (i := 7) (oi := ({ dst := (some 22), op := (Op.call { callee := (Callee.builtin Builtin.len), args := #[(Operand.tmp 21)], argTypes := #[9] }), type := 3, pos := "cell.go:22", after := #[{ on := 6, ground := Ground.data }, { on := 4, ground := Ground.guard }], guard := (some (4, false)) } : Oper)) (v := ?_) rfl (by kernel_rfl) (by kernel_rfl) (by kernel_rfl) (fun _ _ _ h => h) (Or.inl ⟨by rfl, ?_⟩) hHeld ?_
            rotate_left
            · intro w_ hSw; (try dsimp only at hSw); go_simp; try (with_reducible rfl)
            try simp only [Act.put, List.setIfInBounds_toArray, List.set_cons_zero, List.set_cons_succ]
            refine wpAnyH_take (i := 8) (oi := ({ dst := (some 23), op := (Op.binOp BinOp.gtr 3 (Operand.tmp 22) (Operand.const (Value.int IntKind.i64 64)) 3), type := 4, pos := "cell.go:22", after := #[{ on := 7, ground := Ground.data }, { on := 4, ground := Ground.guard }], guard := (some (4, false)) } : Oper)) (v := ?_) rfl (by kernel_rfl) (by kernel_rfl) (by kernel_rfl) (fun _ _ _ h => h) (Or.inl ⟨by rfl, ?_⟩) hHeld ?_
            rotate_left
            · intro w_ hSw; (try dsimp only at hSw); go_simp; try (with_reducible rfl)
            try simp only [Act.put, List.setIfInBounds_toArray, List.set_cons_zero, List.set_cons_succ]
            refine wpAnyH_take (i := 9) (oi := ({ dst := (some 24), op := (Op.pick (Operand.tmp 19) (Operand.const (Value.bool true)) (Operand.tmp 23)), type := 4, pos := "cell.go:22", after := #[{ on := 4, ground := Ground.data }, { on := 8, ground := Ground.data }], guard := none } : Oper)) (v := ?_) rfl (by kernel_rfl) (by kernel_rfl) (by kernel_rfl) (fun _ _ _ h => h) (Or.inl ⟨by rfl, ?_⟩) hHeld ?_
            rotate_left
            · intro w_ hSw; (try dsimp only at hSw); go_simp; try (with_reducible rfl)
            try simp only [Act.put, List.setIfInBounds_toArray, List.set_cons_zero, List.set_cons_succ]
            refine wpAnyH_take (i := 10) (oi := ({ dst := (some 25), op := (Op.move (Operand.tmp 24)), type := 4, pos := "cell.go:22", after := #[{ on := 9, ground := Ground.data }, { on := 4, ground := Ground.chain }], guard := none } : Oper)) (v := ?_) rfl (by kernel_rfl) (by kernel_rfl) (by kernel_rfl) (fun _ _ _ h => h) (Or.inl ⟨by rfl, ?_⟩) hHeld ?_
            rotate_left
            · intro w_ hSw; (try dsimp only at hSw); go_simp; try (with_reducible rfl)
            try simp only [Act.put, List.setIfInBounds_toArray, List.set_cons_zero, List.set_cons_succ]
            refine wpAnyH_take (i := 11) (oi := ({ dst := (some 26), op := (Op.move (Operand.tmp 3)), type := 3, pos := "cell.go:22", after := #[{ on := 10, ground := Ground.guard }], guard := (some (10, false)) } : Oper)) (v := ?_) rfl (by kernel_rfl) (by kernel_rfl) (by kernel_rfl) (fun _ _ _ h => h) (Or.inl ⟨by rfl, ?_⟩) hHeld ?_
            rotate_left
            · intro w_ hSw; (try dsimp only at hSw); go_simp; try (with_reducible rfl)
            try simp only [Act.put, List.setIfInBounds_toArray, List.set_cons_zero, List.set_cons_succ]
            refine wpAnyH_take (i := 12) (oi := ({ dst := (some 27), op := (Op.binOp BinOp.gtr 3 (Operand.tmp 26) (Operand.const (Value.int IntKind.i64 0)) 3), type := 4, pos := "cell.go:22", after := #[{ on := 11, ground := Ground.data }, { on := 10, ground := Ground.guard }], guard := (some (10, false)) } : Oper)) (v := ?_) rfl (by kernel_rfl) (by kernel_rfl) (by kernel_rfl) (fun _ _ _ h => h) (Or.inl ⟨by rfl, ?_⟩) hHeld ?_
            rotate_left
            · intro w_ hSw; (try dsimp only at hSw); go_simp; try (with_reducible rfl)
            try simp only [Act.put, List.setIfInBounds_toArray, List.set_cons_zero, List.set_cons_succ]
            refine wpAnyH_take (i := 13) (oi := ({ dst := (some 28), op := (Op.move (Operand.tmp 27)), type := 4, pos := "cell.go:22", after := #[{ on := 12, ground := Ground.data }, { on := 10, ground := Ground.chain }, { on := 10, ground := Ground.guard }], guard := (some (10, false)) } : Oper)) (v := ?_) rfl (by kernel_rfl) (by kernel_rfl) (by kernel_rfl) (fun _ _ _ h => h) (Or.inl ⟨by rfl, ?_⟩) hHeld ?_
            rotate_left
            · intro w_ hSw; (try dsimp only at hSw); go_simp; try (with_reducible rfl)
            try simp only [Act.put, List.setIfInBounds_toArray, List.set_cons_zero, List.set_cons_succ]
            refine wpAnyH_take (i := 14) (oi := ({ dst := (some 29), op := (Op.fieldAddr 55 (Operand.tmp 4) 0), type := 0, pos := "cell.go:22", after := #[{ on := 13, ground := Ground.guard }], guard := (some (13, true)) } : Oper)) (v := _) rfl (by kernel_rfl) (by kernel_rfl) (by kernel_rfl) (fun _ _ _ h => h) (Or.inr ⟨by rfl, rfl⟩) hHeld ?_
            try simp only [Act.put, List.setIfInBounds_toArray, List.set_cons_zero, List.set_cons_succ]
            refine wpAnyH_take (i := 15) (oi := ({ dst := (some 30), op := (Op.load 9 (Operand.tmp 29)), type := 9, pos := "cell.go:22", after := #[{ on := 14, ground := Ground.data }, { on := 13, ground := Ground.guard }], guard := (some (13, true)) } : Oper)) (v := _) rfl (by kernel_rfl) (by kernel_rfl) (by kernel_rfl) (fun _ _ _ h => h) (Or.inr ⟨by rfl, rfl⟩) hHeld ?_
            try simp only [Act.put, List.setIfInBounds_toArray, List.set_cons_zero, List.set_cons_succ]
            refine wpAnyH_take (i := 16) (oi := ({ dst := (some 31), op := (Op.move (Operand.tmp 0)), type := 24, pos := "cell.go:22", after := #[{ on := 13, ground := Ground.guard }], guard := (some (13, true)) } : Oper)) (v := _) rfl (by kernel_rfl) (by kernel_rfl) (by kernel_rfl) (fun _ _ _ h => h) (Or.inr ⟨by rfl, rfl⟩) hHeld ?_
            try simp only [Act.put, List.setIfInBounds_toArray, List.set_cons_zero, List.set_cons_succ]
            refine wpAnyH_take (i := 17) (oi := ({ dst := (some 32), op := (Op.move (Operand.tmp 3)), type := 3, pos := "cell.go:22", after := #[{ on := 13, ground := Ground.guard }], guard := (some (13, true)) } : Oper)) (v := _) rfl (by kernel_rfl) (by kernel_rfl) (by kernel_rfl) (fun _ _ _ h => h) (Or.inr ⟨by rfl, rfl⟩) hHeld ?_
            try simp only [Act.put, List.setIfInBounds_toArray, List.set_cons_zero, List.set_cons_succ]
            refine wpAnyH_take (i := 18) (oi := ({ dst := (some 33), op := (Op.binOp BinOp.sub 3 (Operand.tmp 32) (Operand.const (Value.int IntKind.i64 1)) 3), type := 3, pos := "cell.go:22", after := #[{ on := 17, ground := Ground.data }, { on := 13, ground := Ground.guard }], guard := (some (13, true)) } : Oper)) (v := _) rfl (by kernel_rfl) (by kernel_rfl) (by kernel_rfl) (fun _ _ _ h => h) (Or.inr ⟨by rfl, rfl⟩) hHeld ?_
            try simp only [Act.put, List.setIfInBounds_toArray, List.set_cons_zero, List.set_cons_succ]
            refine wpAnyH_take (i := 19) (oi := ({ dst := (some 34), op := (Op.indexAddr 24 (Operand.tmp 31) (Operand.tmp 33)), type := 0, pos := "cell.go:22", after := #[{ on := 16, ground := Ground.data }, { on := 18, ground := Ground.data }, { on := 13, ground := Ground.guard }], guard := (some (13, true)) } : Oper)) (v := _) rfl (by kernel_rfl) (by kernel_rfl) (by kernel_rfl) (fun _ _ _ h => h) (Or.inr ⟨by rfl, rfl⟩) hHeld ?_
            try simp only [Act.put, List.setIfInBounds_toArray, List.set_cons_zero, List.set_cons_succ]
            refine wpAnyH_take (i := 20) (oi := ({ dst := (some 35), op := (Op.fieldAddr 55 (Operand.tmp 34) 0), type := 0, pos := "cell.go:22", after := #[{ on := 19, ground := Ground.data }, { on := 13, ground := Ground.guard }], guard := (some (13, true)) } : Oper)) (v := _) rfl (by kernel_rfl) (by kernel_rfl) (by kernel_rfl) (fun _ _ _ h => h) (Or.inr ⟨by rfl, rfl⟩) hHeld ?_
            try simp only [Act.put, List.setIfInBounds_toArray, List.set_cons_zero, List.set_cons_succ]
            refine wpAnyH_take (i := 21) (oi := ({ dst := (some 36), op := (Op.load 9 (Operand.tmp 35)), type := 9, pos := "cell.go:22", after := #[{ on := 20, ground := Ground.data }, { on := 13, ground := Ground.guard }], guard := (some (13, true)) } : Oper)) (v := _) rfl (by kernel_rfl) (by kernel_rfl) (by kernel_rfl) (fun _ _ _ h => h) (Or.inr ⟨by rfl, rfl⟩) hHeld ?_
            try simp only [Act.put, List.setIfInBounds_toArray, List.set_cons_zero, List.set_cons_succ]
            refine wpAnyH_take (i := 22) (oi := ({ dst := (some 37), op := (Op.binOp BinOp.leq 9 (Operand.tmp 30) (Operand.tmp 36) 9), type := 4, pos := "cell.go:22", after := #[{ on := 15, ground := Ground.data }, { on := 21, ground := Ground.data }, { on := 13, ground := Ground.guard }], guard := (some (13, true)) } : Oper)) (v := _) rfl (by kernel_rfl) (by kernel_rfl) (by kernel_rfl) (fun _ _ _ h => h) (Or.inr ⟨by rfl, rfl⟩) hHeld ?_
            try simp only [Act.put, List.setIfInBounds_toArray, List.set_cons_zero, List.set_cons_succ]
            refine wpAnyH_take (i := 23) (oi := ({ dst := (some 38), op := (Op.pick (Operand.tmp 28) (Operand.tmp 37) (Operand.const (Value.bool false))), type := 4, pos := "cell.go:22", after := #[{ on := 13, ground := Ground.data }, { on := 22, ground := Ground.data }, { on := 10, ground := Ground.guard }], guard := (some (10, false)) } : Oper)) (v := ?_) rfl (by kernel_rfl) (by kernel_rfl) (by kernel_rfl) (fun _ _ _ h => h) (Or.inl ⟨by rfl, ?_⟩) hHeld ?_
            rotate_left
            · intro w_ hSw; (try dsimp only at hSw); go_simp; try (with_reducible rfl)
            try simp only [Act.put, List.setIfInBounds_toArray, List.set_cons_zero, List.set_cons_succ]
            refine wpAnyH_take (i := 24) (oi := ({ dst := (some 39), op := (Op.pick (Operand.tmp 25) (Operand.const (Value.bool true)) (Operand.tmp 38)), type := 4, pos := "cell.go:22", after := #[{ on := 10, ground := Ground.data }, { on := 23, ground := Ground.data }], guard := none } : Oper)) (v := ?_) rfl (by kernel_rfl) (by kernel_rfl) (by kernel_rfl) (fun _ _ _ h => h) (Or.inl ⟨by rfl, ?_⟩) hHeld ?_
            rotate_left
            · intro w_ hSw; (try dsimp only at hSw); go_simp; try (with_reducible rfl)
            try simp only [Act.put, List.setIfInBounds_toArray, List.set_cons_zero, List.set_cons_succ]
            refine wpAnyH_done (by kernel_rfl) ?_ _
            go_wp2_with fail
            have HPn := Aside0.mk HP.out.drop1
            clear HP
            go_roundg (gk - 1)
            case measure => have := HK.out; have := (List.getElem?_eq_some_iff.1 HY.out).1; omega
            case rel => exact ⟨j + 1, x + 1, rfl, ⟨by have := HX.out; omega⟩, ⟨by have := HK.out; have := (List.getElem?_eq_some_iff.1 HY.out).1; omega⟩, ⟨by rw [pairsTo_succ, HG.out, HYD.out]; (try rw [hpd]); simp [pairAt, *]⟩, HPn⟩
          · have c0b : decide (0 < x) = true := decide_eq_true (by omega)
            have ex2 : IntKind.i64.wrap (x - 1) = x - 1 := IntWalk.i64_in _ (by omega)
            have p3 : 1 ≤ x := by omega
            have q3 : x - 1 < (l.length : Int) := by omega
            obtain ⟨p, hp⟩ : ∃ p, l[j - 1]? = some p := ⟨_, List.getElem?_eq_getElem (by omega)⟩
            obtain ⟨cs, hcs, hra⟩ := range_K HR.out hp
            have hcs2 := k55_open hcs
            subst hcs2
            have hxt : x.toNat - 1 = j - 1 := by omega
            have HPV := Aside0.mk (fun w' (hb : Below w.heap.size w w') => (show w'.cell? ⟨Ab, Ao + (x.toNat - 1) * 2, none⟩ = some (.string p.f0) from by
              have h0 := hra 0 _ rfl
              rw [hxt]
              exact (hb.cell (World.block_lt_of_cell? w _ h0)).trans h0))
            have HPD := Aside0.mk (show pairAt l j y = (keyOk y.f0 && decide (y.f1.size ≤ 64) && (decide (j = 0) || Op.bytesLess p.f0.toList y.f0.toList)) from by unfold pairAt; rw [show l.getD (j - 1) z55 = p from by rw [List.getD_eq_getElem?_getD, hp]; rfl])
            clear hp hcs hra hxt hx c1
            cases hbl : Op.bytesLess p.f0.toList y.f0.toList with
            | true =>
              have hle : (Op.bytesLess y.f0.toList p.f0.toList || y.f0.toList == p.f0.toList) = false := by rw [less_tri, Bool.not_eq_true'] at hbl; exact hbl
              refine held_named (S := (fun w' => w'.cell? ⟨gx, 0, none⟩ = some (.string y.f0) ∧ w'.cell? ⟨gx, 1, none⟩ = some (.string y.f1) ∧ w'.cell? ⟨Ab, Ao + (x.toNat - 1) * 2, none⟩ = some (.string p.f0))) (by kernel_rfl) (fun wd6 hwd6 => ?_)
              have HPn := Aside0.mk (HP.out.drewN 1)
              rw [← World.drew_is_drewN, hwd6] at HPn
              clear HP hwd6
              have HP := HPn
              clear HPn
              refine ⟨by (try dsimp only); exact ⟨blk_cell (HP.out.blk 0 rfl) 0, blk_cell (HP.out.blk 0 rfl) 1, HPV.out _ HP.out.below⟩, fun hHeld => ?_⟩
              refine wpAnyH_take (i := 0) (oi := ({ dst := (some 15), op := (Op.fieldAddr 55 (Operand.tmp 4) 0), type := 0, pos := "cell.go:22", after := #[], guard := none } : Oper)) (v := ?_) rfl (by kernel_rfl) (by kernel_rfl) (by kernel_rfl) (fun _ _ _ h => h) (Or.inl ⟨by rfl, ?_⟩) hHeld ?_
              rotate_left
              · intro w_ hSw; (try dsimp only at hSw); go_simp; try (with_reducible rfl)
              try simp only [Act.put, List.setIfInBounds_toArray, List.set_cons_zero, List.set_cons_succ]
              refine wpAnyH_take (i := 1) (oi := ({ dst := (some 16), op := (Op.load 9 (Operand.tmp 15)), type := 9, pos := "cell.go:22", after := #[{ on := 0, ground := Ground.data }], guard := none } : Oper)) (v := ?_) rfl (by kernel_rfl) (by kernel_rfl) (by kernel_rfl) (fun _ _ _ h => h) (Or.inl ⟨by rfl, ?_⟩) hHeld ?_
              rotate_left
              · intro w_ hSw; (try dsimp only at hSw); go_simp; try (with_reducible rfl)
              try simp only [Act.put, List.setIfInBounds_toArray, List.set_cons_zero, List.set_cons_succ]
              refine wpAnyH_ready (rs := [2]) (by kernel_rfl) (by simp) ?_
              refine AllReadyH.cons (o := ({ dst := (some 17), op := (Op.call { callee := (Callee.value (Operand.func 60)), args := #[(Operand.tmp 16)], argTypes := #[9] }), type := 4, pos := "cell.go:22", after := #[{ on := 1, ground := Ground.data }], guard := none } : Oper)) rfl (fun K hK => ?_) AllReadyH.nil
              go_simp
              go_at_call 60; refine (c_key _ _).mono ?_; rintro e w_ ⟨rfl, rfl⟩; (try rw [hkey])
              go_wp2_with fail
              clear hHeld
              refine hK.out _ _ ?_ (fun hHeld => ?_)
              · (try dsimp only); exact ⟨blk_cell (HP.out.blk 0 rfl) 0, blk_cell (HP.out.blk 0 rfl) 1, HPV.out _ HP.out.below⟩
              clear hK K
              try simp only [Act.put, List.setIfInBounds_toArray, List.set_cons_zero, List.set_cons_succ]
              refine wpAnyH_take (i := 3) (oi := ({ dst := (some 18), op := (Op.unOp UnOp.not 4 (Operand.tmp 17)), type := 4, pos := "cell.go:22", after := #[{ on := 2, ground := Ground.data }], guard := none } : Oper)) (v := ?_) rfl (by kernel_rfl) (by kernel_rfl) (by kernel_rfl) (fun _ _ _ h => h) (Or.inl ⟨by rfl, ?_⟩) hHeld ?_
              rotate_left
              · intro w_ hSw; (try dsimp only at hSw); go_simp; try (with_reducible rfl)
              try simp only [Act.put, List.setIfInBounds_toArray, List.set_cons_zero, List.set_cons_succ]
              refine wpAnyH_take (i := 4) (oi := ({ dst := (some 19), op := (Op.move (Operand.tmp 18)), type := 4, pos := "cell.go:22", after := #[{ on := 3, ground := Ground.data }, { on := 2, ground := Ground.chain }], guard := none } : Oper)) (v := ?_) rfl (by kernel_rfl) (by kernel_rfl) (by kernel_rfl) (fun _ _ _ h => h) (Or.inl ⟨by rfl, ?_⟩) hHeld ?_
              rotate_left
              · intro w_ hSw; (try dsimp only at hSw); go_simp; try (with_reducible rfl)
              try simp only [Act.put, List.setIfInBounds_toArray, List.set_cons_zero, List.set_cons_succ]
              refine wpAnyH_take (i := 5) (oi := ({ dst := (some 20), op := (Op.fieldAddr 55 (Operand.tmp 4) 1), type := 0, pos := "cell.go:22", after := #[{ on := 4, ground := Ground.guard }], guard := (some (4, false)) } : Oper)) (v := ?_) rfl (by kernel_rfl) (by kernel_rfl) (by kernel_rfl) (fun _ _ _ h => h) (Or.inl ⟨by rfl, ?_⟩) hHeld ?_
              rotate_left
              · intro w_ hSw; (try dsimp only at hSw); go_simp; try (with_reducible rfl)
              try simp only [Act.put, List.setIfInBounds_toArray, List.set_cons_zero, List.set_cons_succ]
              refine wpAnyH_take (i := 6) (oi := ({ dst := (some 21), op := (Op.load 9 (Operand.tmp 20)), type := 9, pos := "cell.go:22", after := #[{ on := 5, ground := Ground.data }, { on := 4, ground := Ground.guard }], guard := (some (4, false)) } : Oper)) (v := ?_) rfl (by kernel_rfl) (by kernel_rfl) (by kernel_rfl) (fun _ _ _ h => h) (Or.inl ⟨by rfl, ?_⟩) hHeld ?_
              rotate_left
              · intro w_ hSw; (try dsimp only at hSw); go_simp; try (with_reducible rfl)
              try simp only [Act.put, List.setIfInBounds_toArray, List.set_cons_zero, List.set_cons_succ]
              refine wpAnyH_take (i := 7) (oi := ({ dst := (some 22), op := (Op.call { callee := (Callee.builtin Builtin.len), args := #[(Operand.tmp 21)], argTypes := #[9] }), type := 3, pos := "cell.go:22", after := #[{ on := 6, ground := Ground.data }, { on := 4, ground := Ground.guard }], guard := (some (4, false)) } : Oper)) (v := ?_) rfl (by kernel_rfl) (by kernel_rfl) (by kernel_rfl) (fun _ _ _ h => h) (Or.inl ⟨by rfl, ?_⟩) hHeld ?_
              rotate_left
              · intro w_ hSw; (try dsimp only at hSw); go_simp; try (with_reducible rfl)
              try simp only [Act.put, List.setIfInBounds_toArray, List.set_cons_zero, List.set_cons_succ]
              refine wpAnyH_take (i := 8) (oi := ({ dst := (some 23), op := (Op.binOp BinOp.gtr 3 (Operand.tmp 22) (Operand.const (Value.int IntKind.i64 64)) 3), type := 4, pos := "cell.go:22", after := #[{ on := 7, ground := Ground.data }, { on := 4, ground := Ground.guard }], guard := (some (4, false)) } : Oper)) (v := ?_) rfl (by kernel_rfl) (by kernel_rfl) (by kernel_rfl) (fun _ _ _ h => h) (Or.inl ⟨by rfl, ?_⟩) hHeld ?_
              rotate_left
              · intro w_ hSw; (try dsimp only at hSw); go_simp; try (with_reducible rfl)
              try simp only [Act.put, List.setIfInBounds_toArray, List.set_cons_zero, List.set_cons_succ]
              refine wpAnyH_take (i := 9) (oi := ({ dst := (some 24), op := (Op.pick (Operand.tmp 19) (Operand.const (Value.bool true)) (Operand.tmp 23)), type := 4, pos := "cell.go:22", after := #[{ on := 4, ground := Ground.data }, { on := 8, ground := Ground.data }], guard := none } : Oper)) (v := ?_) rfl (by kernel_rfl) (by kernel_rfl) (by kernel_rfl) (fun _ _ _ h => h) (Or.inl ⟨by rfl, ?_⟩) hHeld ?_
              rotate_left
              · intro w_ hSw; (try dsimp only at hSw); go_simp; try (with_reducible rfl)
              try simp only [Act.put, List.setIfInBounds_toArray, List.set_cons_zero, List.set_cons_succ]
              refine wpAnyH_take (i := 10) (oi := ({ dst := (some 25), op := (Op.move (Operand.tmp 24)), type := 4, pos := "cell.go:22", after := #[{ on := 9, ground := Ground.data }, { on := 4, ground := Ground.chain }], guard := none } : Oper)) (v := ?_) rfl (by kernel_rfl) (by kernel_rfl) (by kernel_rfl) (fun _ _ _ h => h) (Or.inl ⟨by rfl, ?_⟩) hHeld ?_
              rotate_left
              · intro w_ hSw; (try dsimp only at hSw); go_simp; try (with_reducible rfl)
              try simp only [Act.put, List.setIfInBounds_toArray, List.set_cons_zero, List.set_cons_succ]
              refine wpAnyH_take (i := 11) (oi := ({ dst := (some 26), op := (Op.move (Operand.tmp 3)), type := 3, pos := "cell.go:22", after := #[{ on := 10, ground := Ground.guard }], guard := (some (10, false)) } : Oper)) (v := ?_) rfl (by kernel_rfl) (by kernel_rfl) (by kernel_rfl) (fun _ _ _ h => h) (Or.inl ⟨by rfl, ?_⟩) hHeld ?_
              rotate_left
              · intro w_ hSw; (try dsimp only at hSw); go_simp; try (with_reducible rfl)
              try simp only [Act.put, List.setIfInBounds_toArray, List.set_cons_zero, List.set_cons_succ]
              refine wpAnyH_take (i := 12) (oi := ({ dst := (some 27), op := (Op.binOp BinOp.gtr 3 (Operand.tmp 26) (Operand.const (Value.int IntKind.i64 0)) 3), type := 4, pos := "cell.go:22", after := #[{ on := 11, ground := Ground.data }, { on := 10, ground := Ground.guard }], guard := (some (10, false)) } : Oper)) (v := ?_) rfl (by kernel_rfl) (by kernel_rfl) (by kernel_rfl) (fun _ _ _ h => h) (Or.inl ⟨by rfl, ?_⟩) hHeld ?_
              rotate_left
              · intro w_ hSw; (try dsimp only at hSw); go_simp; try (with_reducible rfl)
              try simp only [Act.put, List.setIfInBounds_toArray, List.set_cons_zero, List.set_cons_succ]
              refine wpAnyH_take (i := 13) (oi := ({ dst := (some 28), op := (Op.move (Operand.tmp 27)), type := 4, pos := "cell.go:22", after := #[{ on := 12, ground := Ground.data }, { on := 10, ground := Ground.chain }, { on := 10, ground := Ground.guard }], guard := (some (10, false)) } : Oper)) (v := ?_) rfl (by kernel_rfl) (by kernel_rfl) (by kernel_rfl) (fun _ _ _ h => h) (Or.inl ⟨by rfl, ?_⟩) hHeld ?_
              rotate_left
              · intro w_ hSw; (try dsimp only at hSw); go_simp; try (with_reducible rfl)
              try simp only [Act.put, List.setIfInBounds_toArray, List.set_cons_zero, List.set_cons_succ]
              refine wpAnyH_take (i := 14) (oi := ({ dst := (some 29), op := (Op.fieldAddr 55 (Operand.tmp 4) 0), type := 0, pos := "cell.go:22", after := #[{ on := 13, ground := Ground.guard }], guard := (some (13, true)) } : Oper)) (v := ?_) rfl (by kernel_rfl) (by kernel_rfl) (by kernel_rfl) (fun _ _ _ h => h) (Or.inl ⟨by rfl, ?_⟩) hHeld ?_
              rotate_left
              · intro w_ hSw; (try dsimp only at hSw); go_simp; try (with_reducible rfl)
              try simp only [Act.put, List.setIfInBounds_toArray, List.set_cons_zero, List.set_cons_succ]
              refine wpAnyH_take (i := 15) (oi := ({ dst := (some 30), op := (Op.load 9 (Operand.tmp 29)), type := 9, pos := "cell.go:22", after := #[{ on := 14, ground := Ground.data }, { on := 13, ground := Ground.guard }], guard := (some (13, true)) } : Oper)) (v := ?_) rfl (by kernel_rfl) (by kernel_rfl) (by kernel_rfl) (fun _ _ _ h => h) (Or.inl ⟨by rfl, ?_⟩) hHeld ?_
              rotate_left
              · intro w_ hSw; (try dsimp only at hSw); go_simp; try (with_reducible rfl)
              try simp only [Act.put, List.setIfInBounds_toArray, List.set_cons_zero, List.set_cons_succ]
              refine wpAnyH_take (i := 16) (oi := ({ dst := (some 31), op := (Op.move (Operand.tmp 0)), type := 24, pos := "cell.go:22", after := #[{ on := 13, ground := Ground.guard }], guard := (some (13, true)) } : Oper)) (v := ?_) rfl (by kernel_rfl) (by kernel_rfl) (by kernel_rfl) (fun _ _ _ h => h) (Or.inl ⟨by rfl, ?_⟩) hHeld ?_
              rotate_left
              · intro w_ hSw; (try dsimp only at hSw); go_simp; try (with_reducible rfl)
              try simp only [Act.put, List.setIfInBounds_toArray, List.set_cons_zero, List.set_cons_succ]
              refine wpAnyH_take (i := 17) (oi := ({ dst := (some 32), op := (Op.move (Operand.tmp 3)), type := 3, pos := "cell.go:22", after := #[{ on := 13, ground := Ground.guard }], guard := (some (13, true)) } : Oper)) (v := ?_) rfl (by kernel_rfl) (by kernel_rfl) (by kernel_rfl) (fun _ _ _ h => h) (Or.inl ⟨by rfl, ?_⟩) hHeld ?_
              rotate_left
              · intro w_ hSw; (try dsimp only at hSw); go_simp; try (with_reducible rfl)
              try simp only [Act.put, List.setIfInBounds_toArray, List.set_cons_zero, List.set_cons_succ]
              refine wpAnyH_take (i := 18) (oi := ({ dst := (some 33), op := (Op.binOp BinOp.sub 3 (Operand.tmp 32) (Operand.const (Value.int IntKind.i64 1)) 3), type := 3, pos := "cell.go:22", after := #[{ on := 17, ground := Ground.data }, { on := 13, ground := Ground.guard }], guard := (some (13, true)) } : Oper)) (v := ?_) rfl (by kernel_rfl) (by kernel_rfl) (by kernel_rfl) (fun _ _ _ h => h) (Or.inl ⟨by rfl, ?_⟩) hHeld ?_
              rotate_left
              · intro w_ hSw; (try dsimp only at hSw); go_simp; try (with_reducible rfl)
              try simp only [Act.put, List.setIfInBounds_toArray, List.set_cons_zero, List.set_cons_succ]
              refine wpAnyH_take (i := 19) (oi := ({ dst := (some 34), op := (Op.indexAddr 24 (Operand.tmp 31) (Operand.tmp 33)), type := 0, pos := "cell.go:22", after := #[{ on := 16, ground := Ground.data }, { on := 18, ground := Ground.data }, { on := 13, ground := Ground.guard }], guard := (some (13, true)) } : Oper)) (v := ?_) rfl (by kernel_rfl) (by kernel_rfl) (by kernel_rfl) (fun _ _ _ h => h) (Or.inl ⟨by rfl, ?_⟩) hHeld ?_
              rotate_left
              · intro w_ hSw; (try dsimp only at hSw); go_simp; try (with_reducible rfl)
              try simp only [Act.put, List.setIfInBounds_toArray, List.set_cons_zero, List.set_cons_succ]
              refine wpAnyH_take (i := 20) (oi := ({ dst := (some 35), op := (Op.fieldAddr 55 (Operand.tmp 34) 0), type := 0, pos := "cell.go:22", after := #[{ on := 19, ground := Ground.data }, { on := 13, ground := Ground.guard }], guard := (some (13, true)) } : Oper)) (v := ?_) rfl (by kernel_rfl) (by kernel_rfl) (by kernel_rfl) (fun _ _ _ h => h) (Or.inl ⟨by rfl, ?_⟩) hHeld ?_
              rotate_left
              · intro w_ hSw; (try dsimp only at hSw); go_simp; try (with_reducible rfl)
              try simp only [Act.put, List.setIfInBounds_toArray, List.set_cons_zero, List.set_cons_succ]
              refine wpAnyH_take (i := 21) (oi := ({ dst := (some 36), op := (Op.load 9 (Operand.tmp 35)), type := 9, pos := "cell.go:22", after := #[{ on := 20, ground := Ground.data }, { on := 13, ground := Ground.guard }], guard := (some (13, true)) } : Oper)) (v := ?_) rfl (by kernel_rfl) (by kernel_rfl) (by kernel_rfl) (fun _ _ _ h => h) (Or.inl ⟨by rfl, ?_⟩) hHeld ?_
              rotate_left
              · intro w_ hSw; (try dsimp only at hSw); go_simp; try (with_reducible rfl)
              try simp only [Act.put, List.setIfInBounds_toArray, List.set_cons_zero, List.set_cons_succ]
              refine wpAnyH_take (i := 22) (oi := ({ dst := (some 37), op := (Op.binOp BinOp.leq 9 (Operand.tmp 30) (Operand.tmp 36) 9), type := 4, pos := "cell.go:22", after := #[{ on := 15, ground := Ground.data }, { on := 21, ground := Ground.data }, { on := 13, ground := Ground.guard }], guard := (some (13, true)) } : Oper)) (v := ?_) rfl (by kernel_rfl) (by kernel_rfl) (by kernel_rfl) (fun _ _ _ h => h) (Or.inl ⟨by rfl, ?_⟩) hHeld ?_
              rotate_left
              · intro w_ hSw; (try dsimp only at hSw); go_simp; try (with_reducible rfl)
              try simp only [Act.put, List.setIfInBounds_toArray, List.set_cons_zero, List.set_cons_succ]
              refine wpAnyH_take (i := 23) (oi := ({ dst := (some 38), op := (Op.pick (Operand.tmp 28) (Operand.tmp 37) (Operand.const (Value.bool false))), type := 4, pos := "cell.go:22", after := #[{ on := 13, ground := Ground.data }, { on := 22, ground := Ground.data }, { on := 10, ground := Ground.guard }], guard := (some (10, false)) } : Oper)) (v := ?_) rfl (by kernel_rfl) (by kernel_rfl) (by kernel_rfl) (fun _ _ _ h => h) (Or.inl ⟨by rfl, ?_⟩) hHeld ?_
              rotate_left
              · intro w_ hSw; (try dsimp only at hSw); go_simp; try (with_reducible rfl)
              try simp only [Act.put, List.setIfInBounds_toArray, List.set_cons_zero, List.set_cons_succ]
              refine wpAnyH_take (i := 24) (oi := ({ dst := (some 39), op := (Op.pick (Operand.tmp 25) (Operand.const (Value.bool true)) (Operand.tmp 38)), type := 4, pos := "cell.go:22", after := #[{ on := 10, ground := Ground.data }, { on := 23, ground := Ground.data }], guard := none } : Oper)) (v := ?_) rfl (by kernel_rfl) (by kernel_rfl) (by kernel_rfl) (fun _ _ _ h => h) (Or.inl ⟨by rfl, ?_⟩) hHeld ?_
              rotate_left
              · intro w_ hSw; (try dsimp only at hSw); go_simp; try (with_reducible rfl)
              try simp only [Act.put, List.setIfInBounds_toArray, List.set_cons_zero, List.set_cons_succ]
              refine wpAnyH_done (by kernel_rfl) ?_ _
              have hpd := HPD.out
              go_wp2_with fail
              have HPn := Aside0.mk HP.out.drop1
              clear HP
              go_roundg (gk - 1)
              case measure => have := HK.out; have := (List.getElem?_eq_some_iff.1 HY.out).1; omega
              case rel => exact ⟨j + 1, x + 1, rfl, ⟨by have := HX.out; omega⟩, ⟨by have := HK.out; have := (List.getElem?_eq_some_iff.1 HY.out).1; omega⟩, ⟨by rw [pairsTo_succ, HG.out, HYD.out]; (try rw [hpd]); simp [pairAt, *]⟩, HPn⟩
            | false =>
              have hle : (Op.bytesLess y.f0.toList p.f0.toList || y.f0.toList == p.f0.toList) = true := by rw [less_tri, Bool.not_eq_false'] at hbl; exact hbl
              refine held_named (S := (fun w' => w'.cell? ⟨gx, 0, none⟩ = some (.string y.f0) ∧ w'.cell? ⟨gx, 1, none⟩ = some (.string y.f1) ∧ w'.cell? ⟨Ab, Ao + (x.toNat - 1) * 2, none⟩ = some (.string p.f0))) (by kernel_rfl) (fun wd6 hwd6 => ?_)
              have HPn := Aside0.mk (HP.out.drewN 1)
              rw [← World.drew_is_drewN, hwd6] at HPn
              clear HP hwd6
              have HP := HPn
              clear HPn
              refine ⟨by (try dsimp only); exact ⟨blk_cell (HP.out.blk 0 rfl) 0, blk_cell (HP.out.blk 0 rfl) 1, HPV.out _ HP.out.below⟩, fun hHeld => ?_⟩
              refine wpAnyH_take (i := 0) (oi := ({ dst := (some 15), op := (Op.fieldAddr 55 (Operand.tmp 4) 0), type := 0, pos := "cell.go:22", after := #[], guard := none } : Oper)) (v := ?_) rfl (by kernel_rfl) (by kernel_rfl) (by kernel_rfl) (fun _ _ _ h => h) (Or.inl ⟨by rfl, ?_⟩) hHeld ?_
              rotate_left
              · intro w_ hSw; (try dsimp only at hSw); go_simp; try (with_reducible rfl)
              try simp only [Act.put, List.setIfInBounds_toArray, List.set_cons_zero, List.set_cons_succ]
              refine wpAnyH_take (i := 1) (oi := ({ dst := (some 16), op := (Op.load 9 (Operand.tmp 15)), type := 9, pos := "cell.go:22", after := #[{ on := 0, ground := Ground.data }], guard := none } : Oper)) (v := ?_) rfl (by kernel_rfl) (by kernel_rfl) (by kernel_rfl) (fun _ _ _ h => h) (Or.inl ⟨by rfl, ?_⟩) hHeld ?_
              rotate_left
              · intro w_ hSw; (try dsimp only at hSw); go_simp; try (with_reducible rfl)
              try simp only [Act.put, List.setIfInBounds_toArray, List.set_cons_zero, List.set_cons_succ]
              refine wpAnyH_ready (rs := [2]) (by kernel_rfl) (by simp) ?_
              refine AllReadyH.cons (o := ({ dst := (some 17), op := (Op.call { callee := (Callee.value (Operand.func 60)), args := #[(Operand.tmp 16)], argTypes := #[9] }), type := 4, pos := "cell.go:22", after := #[{ on := 1, ground := Ground.data }], guard := none } : Oper)) rfl (fun K hK => ?_) AllReadyH.nil
              go_simp
              go_at_call 60; refine (c_key _ _).mono ?_; rintro e w_ ⟨rfl, rfl⟩; (try rw [hkey])
              go_wp2_with fail
              clear hHeld
              refine hK.out _ _ ?_ (fun hHeld => ?_)
              · (try dsimp only); exact ⟨blk_cell (HP.out.blk 0 rfl) 0, blk_cell (HP.out.blk 0 rfl) 1, HPV.out _ HP.out.below⟩
              clear hK K
              try simp only [Act.put, List.setIfInBounds_toArray, List.set_cons_zero, List.set_cons_succ]
              refine wpAnyH_take (i := 3) (oi := ({ dst := (some 18), op := (Op.unOp UnOp.not 4 (Operand.tmp 17)), type := 4, pos := "cell.go:22", after := #[{ on := 2, ground := Ground.data }], guard := none } : Oper)) (v := ?_) rfl (by kernel_rfl) (by kernel_rfl) (by kernel_rfl) (fun _ _ _ h => h) (Or.inl ⟨by rfl, ?_⟩) hHeld ?_
              rotate_left
              · intro w_ hSw; (try dsimp only at hSw); go_simp; try (with_reducible rfl)
              try simp only [Act.put, List.setIfInBounds_toArray, List.set_cons_zero, List.set_cons_succ]
              refine wpAnyH_take (i := 4) (oi := ({ dst := (some 19), op := (Op.move (Operand.tmp 18)), type := 4, pos := "cell.go:22", after := #[{ on := 3, ground := Ground.data }, { on := 2, ground := Ground.chain }], guard := none } : Oper)) (v := ?_) rfl (by kernel_rfl) (by kernel_rfl) (by kernel_rfl) (fun _ _ _ h => h) (Or.inl ⟨by rfl, ?_⟩) hHeld ?_
              rotate_left
              · intro w_ hSw; (try dsimp only at hSw); go_simp; try (with_reducible rfl)
              try simp only [Act.put, List.setIfInBounds_toArray, List.set_cons_zero, List.set_cons_succ]
              refine wpAnyH_take (i := 5) (oi := ({ dst := (some 20), op := (Op.fieldAddr 55 (Operand.tmp 4) 1), type := 0, pos := "cell.go:22", after := #[{ on := 4, ground := Ground.guard }], guard := (some (4, false)) } : Oper)) (v := ?_) rfl (by kernel_rfl) (by kernel_rfl) (by kernel_rfl) (fun _ _ _ h => h) (Or.inl ⟨by rfl, ?_⟩) hHeld ?_
              rotate_left
              · intro w_ hSw; (try dsimp only at hSw); go_simp; try (with_reducible rfl)
              try simp only [Act.put, List.setIfInBounds_toArray, List.set_cons_zero, List.set_cons_succ]
              refine wpAnyH_take (i := 6) (oi := ({ dst := (some 21), op := (Op.load 9 (Operand.tmp 20)), type := 9, pos := "cell.go:22", after := #[{ on := 5, ground := Ground.data }, { on := 4, ground := Ground.guard }], guard := (some (4, false)) } : Oper)) (v := ?_) rfl (by kernel_rfl) (by kernel_rfl) (by kernel_rfl) (fun _ _ _ h => h) (Or.inl ⟨by rfl, ?_⟩) hHeld ?_
              rotate_left
              · intro w_ hSw; (try dsimp only at hSw); go_simp; try (with_reducible rfl)
              try simp only [Act.put, List.setIfInBounds_toArray, List.set_cons_zero, List.set_cons_succ]
              refine wpAnyH_take (i := 7) (oi := ({ dst := (some 22), op := (Op.call { callee := (Callee.builtin Builtin.len), args := #[(Operand.tmp 21)], argTypes := #[9] }), type := 3, pos := "cell.go:22", after := #[{ on := 6, ground := Ground.data }, { on := 4, ground := Ground.guard }], guard := (some (4, false)) } : Oper)) (v := ?_) rfl (by kernel_rfl) (by kernel_rfl) (by kernel_rfl) (fun _ _ _ h => h) (Or.inl ⟨by rfl, ?_⟩) hHeld ?_
              rotate_left
              · intro w_ hSw; (try dsimp only at hSw); go_simp; try (with_reducible rfl)
              try simp only [Act.put, List.setIfInBounds_toArray, List.set_cons_zero, List.set_cons_succ]
              refine wpAnyH_take (i := 8) (oi := ({ dst := (some 23), op := (Op.binOp BinOp.gtr 3 (Operand.tmp 22) (Operand.const (Value.int IntKind.i64 64)) 3), type := 4, pos := "cell.go:22", after := #[{ on := 7, ground := Ground.data }, { on := 4, ground := Ground.guard }], guard := (some (4, false)) } : Oper)) (v := ?_) rfl (by kernel_rfl) (by kernel_rfl) (by kernel_rfl) (fun _ _ _ h => h) (Or.inl ⟨by rfl, ?_⟩) hHeld ?_
              rotate_left
              · intro w_ hSw; (try dsimp only at hSw); go_simp; try (with_reducible rfl)
              try simp only [Act.put, List.setIfInBounds_toArray, List.set_cons_zero, List.set_cons_succ]
              refine wpAnyH_take (i := 9) (oi := ({ dst := (some 24), op := (Op.pick (Operand.tmp 19) (Operand.const (Value.bool true)) (Operand.tmp 23)), type := 4, pos := "cell.go:22", after := #[{ on := 4, ground := Ground.data }, { on := 8, ground := Ground.data }], guard := none } : Oper)) (v := ?_) rfl (by kernel_rfl) (by kernel_rfl) (by kernel_rfl) (fun _ _ _ h => h) (Or.inl ⟨by rfl, ?_⟩) hHeld ?_
              rotate_left
              · intro w_ hSw; (try dsimp only at hSw); go_simp; try (with_reducible rfl)
              try simp only [Act.put, List.setIfInBounds_toArray, List.set_cons_zero, List.set_cons_succ]
              refine wpAnyH_take (i := 10) (oi := ({ dst := (some 25), op := (Op.move (Operand.tmp 24)), type := 4, pos := "cell.go:22", after := #[{ on := 9, ground := Ground.data }, { on := 4, ground := Ground.chain }], guard := none } : Oper)) (v := ?_) rfl (by kernel_rfl) (by kernel_rfl) (by kernel_rfl) (fun _ _ _ h => h) (Or.inl ⟨by rfl, ?_⟩) hHeld ?_
              rotate_left
              · intro w_ hSw; (try dsimp only at hSw); go_simp; try (with_reducible rfl)
              try simp only [Act.put, List.setIfInBounds_toArray, List.set_cons_zero, List.set_cons_succ]
              refine wpAnyH_take (i := 11) (oi := ({ dst := (some 26), op := (Op.move (Operand.tmp 3)), type := 3, pos := "cell.go:22", after := #[{ on := 10, ground := Ground.guard }], guard := (some (10, false)) } : Oper)) (v := ?_) rfl (by kernel_rfl) (by kernel_rfl) (by kernel_rfl) (fun _ _ _ h => h) (Or.inl ⟨by rfl, ?_⟩) hHeld ?_
              rotate_left
              · intro w_ hSw; (try dsimp only at hSw); go_simp; try (with_reducible rfl)
              try simp only [Act.put, List.setIfInBounds_toArray, List.set_cons_zero, List.set_cons_succ]
              refine wpAnyH_take (i := 12) (oi := ({ dst := (some 27), op := (Op.binOp BinOp.gtr 3 (Operand.tmp 26) (Operand.const (Value.int IntKind.i64 0)) 3), type := 4, pos := "cell.go:22", after := #[{ on := 11, ground := Ground.data }, { on := 10, ground := Ground.guard }], guard := (some (10, false)) } : Oper)) (v := ?_) rfl (by kernel_rfl) (by kernel_rfl) (by kernel_rfl) (fun _ _ _ h => h) (Or.inl ⟨by rfl, ?_⟩) hHeld ?_
              rotate_left
              · intro w_ hSw; (try dsimp only at hSw); go_simp; try (with_reducible rfl)
              try simp only [Act.put, List.setIfInBounds_toArray, List.set_cons_zero, List.set_cons_succ]
              refine wpAnyH_take (i := 13) (oi := ({ dst := (some 28), op := (Op.move (Operand.tmp 27)), type := 4, pos := "cell.go:22", after := #[{ on := 12, ground := Ground.data }, { on := 10, ground := Ground.chain }, { on := 10, ground := Ground.guard }], guard := (some (10, false)) } : Oper)) (v := ?_) rfl (by kernel_rfl) (by kernel_rfl) (by kernel_rfl) (fun _ _ _ h => h) (Or.inl ⟨by rfl, ?_⟩) hHeld ?_
              rotate_left
              · intro w_ hSw; (try dsimp only at hSw); go_simp; try (with_reducible rfl)
              try simp only [Act.put, List.setIfInBounds_toArray, List.set_cons_zero, List.set_cons_succ]
              refine wpAnyH_take (i := 14) (oi := ({ dst := (some 29), op := (Op.fieldAddr 55 (Operand.tmp 4) 0), type := 0, pos := "cell.go:22", after := #[{ on := 13, ground := Ground.guard }], guard := (some (13, true)) } : Oper)) (v := ?_) rfl (by kernel_rfl) (by kernel_rfl) (by kernel_rfl) (fun _ _ _ h => h) (Or.inl ⟨by rfl, ?_⟩) hHeld ?_
              rotate_left
              · intro w_ hSw; (try dsimp only at hSw); go_simp; try (with_reducible rfl)
              try simp only [Act.put, List.setIfInBounds_toArray, List.set_cons_zero, List.set_cons_succ]
              refine wpAnyH_take (i := 15) (oi := ({ dst := (some 30), op := (Op.load 9 (Operand.tmp 29)), type := 9, pos := "cell.go:22", after := #[{ on := 14, ground := Ground.data }, { on := 13, ground := Ground.guard }], guard := (some (13, true)) } : Oper)) (v := ?_) rfl (by kernel_rfl) (by kernel_rfl) (by kernel_rfl) (fun _ _ _ h => h) (Or.inl ⟨by rfl, ?_⟩) hHeld ?_
              rotate_left
              · intro w_ hSw; (try dsimp only at hSw); go_simp; try (with_reducible rfl)
              try simp only [Act.put, List.setIfInBounds_toArray, List.set_cons_zero, List.set_cons_succ]
              refine wpAnyH_take (i := 16) (oi := ({ dst := (some 31), op := (Op.move (Operand.tmp 0)), type := 24, pos := "cell.go:22", after := #[{ on := 13, ground := Ground.guard }], guard := (some (13, true)) } : Oper)) (v := ?_) rfl (by kernel_rfl) (by kernel_rfl) (by kernel_rfl) (fun _ _ _ h => h) (Or.inl ⟨by rfl, ?_⟩) hHeld ?_
              rotate_left
              · intro w_ hSw; (try dsimp only at hSw); go_simp; try (with_reducible rfl)
              try simp only [Act.put, List.setIfInBounds_toArray, List.set_cons_zero, List.set_cons_succ]
              refine wpAnyH_take (i := 17) (oi := ({ dst := (some 32), op := (Op.move (Operand.tmp 3)), type := 3, pos := "cell.go:22", after := #[{ on := 13, ground := Ground.guard }], guard := (some (13, true)) } : Oper)) (v := ?_) rfl (by kernel_rfl) (by kernel_rfl) (by kernel_rfl) (fun _ _ _ h => h) (Or.inl ⟨by rfl, ?_⟩) hHeld ?_
              rotate_left
              · intro w_ hSw; (try dsimp only at hSw); go_simp; try (with_reducible rfl)
              try simp only [Act.put, List.setIfInBounds_toArray, List.set_cons_zero, List.set_cons_succ]
              refine wpAnyH_take (i := 18) (oi := ({ dst := (some 33), op := (Op.binOp BinOp.sub 3 (Operand.tmp 32) (Operand.const (Value.int IntKind.i64 1)) 3), type := 3, pos := "cell.go:22", after := #[{ on := 17, ground := Ground.data }, { on := 13, ground := Ground.guard }], guard := (some (13, true)) } : Oper)) (v := ?_) rfl (by kernel_rfl) (by kernel_rfl) (by kernel_rfl) (fun _ _ _ h => h) (Or.inl ⟨by rfl, ?_⟩) hHeld ?_
              rotate_left
              · intro w_ hSw; (try dsimp only at hSw); go_simp; try (with_reducible rfl)
              try simp only [Act.put, List.setIfInBounds_toArray, List.set_cons_zero, List.set_cons_succ]
              refine wpAnyH_take (i := 19) (oi := ({ dst := (some 34), op := (Op.indexAddr 24 (Operand.tmp 31) (Operand.tmp 33)), type := 0, pos := "cell.go:22", after := #[{ on := 16, ground := Ground.data }, { on := 18, ground := Ground.data }, { on := 13, ground := Ground.guard }], guard := (some (13, true)) } : Oper)) (v := ?_) rfl (by kernel_rfl) (by kernel_rfl) (by kernel_rfl) (fun _ _ _ h => h) (Or.inl ⟨by rfl, ?_⟩) hHeld ?_
              rotate_left
              · intro w_ hSw; (try dsimp only at hSw); go_simp; try (with_reducible rfl)
              try simp only [Act.put, List.setIfInBounds_toArray, List.set_cons_zero, List.set_cons_succ]
              refine wpAnyH_take (i := 20) (oi := ({ dst := (some 35), op := (Op.fieldAddr 55 (Operand.tmp 34) 0), type := 0, pos := "cell.go:22", after := #[{ on := 19, ground := Ground.data }, { on := 13, ground := Ground.guard }], guard := (some (13, true)) } : Oper)) (v := ?_) rfl (by kernel_rfl) (by kernel_rfl) (by kernel_rfl) (fun _ _ _ h => h) (Or.inl ⟨by rfl, ?_⟩) hHeld ?_
              rotate_left
              · intro w_ hSw; (try dsimp only at hSw); go_simp; try (with_reducible rfl)
              try simp only [Act.put, List.setIfInBounds_toArray, List.set_cons_zero, List.set_cons_succ]
              refine wpAnyH_take (i := 21) (oi := ({ dst := (some 36), op := (Op.load 9 (Operand.tmp 35)), type := 9, pos := "cell.go:22", after := #[{ on := 20, ground := Ground.data }, { on := 13, ground := Ground.guard }], guard := (some (13, true)) } : Oper)) (v := ?_) rfl (by kernel_rfl) (by kernel_rfl) (by kernel_rfl) (fun _ _ _ h => h) (Or.inl ⟨by rfl, ?_⟩) hHeld ?_
              rotate_left
              · intro w_ hSw; (try dsimp only at hSw); go_simp; try (with_reducible rfl)
              try simp only [Act.put, List.setIfInBounds_toArray, List.set_cons_zero, List.set_cons_succ]
              refine wpAnyH_take (i := 22) (oi := ({ dst := (some 37), op := (Op.binOp BinOp.leq 9 (Operand.tmp 30) (Operand.tmp 36) 9), type := 4, pos := "cell.go:22", after := #[{ on := 15, ground := Ground.data }, { on := 21, ground := Ground.data }, { on := 13, ground := Ground.guard }], guard := (some (13, true)) } : Oper)) (v := ?_) rfl (by kernel_rfl) (by kernel_rfl) (by kernel_rfl) (fun _ _ _ h => h) (Or.inl ⟨by rfl, ?_⟩) hHeld ?_
              rotate_left
              · intro w_ hSw; (try dsimp only at hSw); go_simp; try (with_reducible rfl)
              try simp only [Act.put, List.setIfInBounds_toArray, List.set_cons_zero, List.set_cons_succ]
              refine wpAnyH_take (i := 23) (oi := ({ dst := (some 38), op := (Op.pick (Operand.tmp 28) (Operand.tmp 37) (Operand.const (Value.bool false))), type := 4, pos := "cell.go:22", after := #[{ on := 13, ground := Ground.data }, { on := 22, ground := Ground.data }, { on := 10, ground := Ground.guard }], guard := (some (10, false)) } : Oper)) (v := ?_) rfl (by kernel_rfl) (by kernel_rfl) (by kernel_rfl) (fun _ _ _ h => h) (Or.inl ⟨by rfl, ?_⟩) hHeld ?_
              rotate_left
              · intro w_ hSw; (try dsimp only at hSw); go_simp; try (with_reducible rfl)
              try simp only [Act.put, List.setIfInBounds_toArray, List.set_cons_zero, List.set_cons_succ]
              refine wpAnyH_take (i := 24) (oi := ({ dst := (some 39), op := (Op.pick (Operand.tmp 25) (Operand.const (Value.bool true)) (Operand.tmp 38)), type := 4, pos := "cell.go:22", after := #[{ on := 10, ground := Ground.data }, { on := 23, ground := Ground.data }], guard := none } : Oper)) (v := ?_) rfl (by kernel_rfl) (by kernel_rfl) (by kernel_rfl) (fun _ _ _ h => h) (Or.inl ⟨by rfl, ?_⟩) hHeld ?_
              rotate_left
              · intro w_ hSw; (try dsimp only at hSw); go_simp; try (with_reducible rfl)
              try simp only [Act.put, List.setIfInBounds_toArray, List.set_cons_zero, List.set_cons_succ]
              refine wpAnyH_done (by kernel_rfl) ?_ _
              have hpd := HPD.out
              go_wp2_with fail
              go_ret
              exact ⟨by rw [HBAD.out (by (try rw [hpd]); simp [pairAt, *])]; rfl, HP.out.below⟩
      · have hkey : keyOk y.f0 = false := by simpa using ck
        clear ck hx c1
        refine held_named (S := (fun w' => w'.cell? ⟨gx, 0, none⟩ = some (.string y.f0) ∧ w'.cell? ⟨gx, 1, none⟩ = some (.string y.f1))) (by kernel_rfl) (fun wd6 hwd6 => ?_)
        have HPn := Aside0.mk (HP.out.drewN 1)
        rw [← World.drew_is_drewN, hwd6] at HPn
        clear HP hwd6
        have HP := HPn
        clear HPn
        refine ⟨by (try dsimp only); exact ⟨blk_cell (HP.out.blk 0 rfl) 0, blk_cell (HP.out.blk 0 rfl) 1⟩, fun hHeld => ?_⟩
        refine wpAnyH_take (i := 0) (oi := ({ dst := (some 15), op := (Op.fieldAddr 55 (Operand.tmp 4) 0), type := 0, pos := "cell.go:22", after := #[], guard := none } : Oper)) (v := ?_) rfl (by kernel_rfl) (by kernel_rfl) (by kernel_rfl) (fun _ _ _ h => h) (Or.inl ⟨by rfl, ?_⟩) hHeld ?_
        rotate_left
        · intro w_ hSw; (try dsimp only at hSw); go_simp; try (with_reducible rfl)
        try simp only [Act.put, List.setIfInBounds_toArray, List.set_cons_zero, List.set_cons_succ]
        refine wpAnyH_take (i := 1) (oi := ({ dst := (some 16), op := (Op.load 9 (Operand.tmp 15)), type := 9, pos := "cell.go:22", after := #[{ on := 0, ground := Ground.data }], guard := none } : Oper)) (v := ?_) rfl (by kernel_rfl) (by kernel_rfl) (by kernel_rfl) (fun _ _ _ h => h) (Or.inl ⟨by rfl, ?_⟩) hHeld ?_
        rotate_left
        · intro w_ hSw; (try dsimp only at hSw); go_simp; try (with_reducible rfl)
        try simp only [Act.put, List.setIfInBounds_toArray, List.set_cons_zero, List.set_cons_succ]
        refine wpAnyH_ready (rs := [2]) (by kernel_rfl) (by simp) ?_
        refine AllReadyH.cons (o := ({ dst := (some 17), op := (Op.call { callee := (Callee.value (Operand.func 60)), args := #[(Operand.tmp 16)], argTypes := #[9] }), type := 4, pos := "cell.go:22", after := #[{ on := 1, ground := Ground.data }], guard := none } : Oper)) rfl (fun K hK => ?_) AllReadyH.nil
        go_simp
        go_at_call 60; refine (c_key _ _).mono ?_; rintro e w_ ⟨rfl, rfl⟩; (try rw [hkey])
        go_wp2_with fail
        clear hHeld
        refine hK.out _ _ ?_ (fun hHeld => ?_)
        · (try dsimp only); exact ⟨blk_cell (HP.out.blk 0 rfl) 0, blk_cell (HP.out.blk 0 rfl) 1⟩
        clear hK K
        try simp only [Act.put, List.setIfInBounds_toArray, List.set_cons_zero, List.set_cons_succ]
        refine wpAnyH_take (i := 3) (oi := ({ dst := (some 18), op := (Op.unOp UnOp.not 4 (Operand.tmp 17)), type := 4, pos := "cell.go:22", after := #[{ on := 2, ground := Ground.data }], guard := none } : Oper)) (v := ?_) rfl (by kernel_rfl) (by kernel_rfl) (by kernel_rfl) (fun _ _ _ h => h) (Or.inl ⟨by rfl, ?_⟩) hHeld ?_
        rotate_left
        · intro w_ hSw; (try dsimp only at hSw); go_simp; try (with_reducible rfl)
        try simp only [Act.put, List.setIfInBounds_toArray, List.set_cons_zero, List.set_cons_succ]
        refine wpAnyH_take (i := 4) (oi := ({ dst := (some 19), op := (Op.move (Operand.tmp 18)), type := 4, pos := "cell.go:22", after := #[{ on := 3, ground := Ground.data }, { on := 2, ground := Ground.chain }], guard := none } : Oper)) (v := ?_) rfl (by kernel_rfl) (by kernel_rfl) (by kernel_rfl) (fun _ _ _ h => h) (Or.inl ⟨by rfl, ?_⟩) hHeld ?_
        rotate_left
        · intro w_ hSw; (try dsimp only at hSw); go_simp; try (with_reducible rfl)
        try simp only [Act.put, List.setIfInBounds_toArray, List.set_cons_zero, List.set_cons_succ]
        refine wpAnyH_take (i := 5) (oi := ({ dst := (some 20), op := (Op.fieldAddr 55 (Operand.tmp 4) 1), type := 0, pos := "cell.go:22", after := #[{ on := 4, ground := Ground.guard }], guard := (some (4, false)) } : Oper)) (v := _) rfl (by kernel_rfl) (by kernel_rfl) (by kernel_rfl) (fun _ _ _ h => h) (Or.inr ⟨by rfl, rfl⟩) hHeld ?_
        try simp only [Act.put, List.setIfInBounds_toArray, List.set_cons_zero, List.set_cons_succ]
        refine wpAnyH_take (i := 6) (oi := ({ dst := (some 21), op := (Op.load 9 (Operand.tmp 20)), type := 9, pos := "cell.go:22", after := #[{ on := 5, ground := Ground.data }, { on := 4, ground := Ground.guard }], guard := (some (4, false)) } : Oper)) (v := _) rfl (by kernel_rfl) (by kernel_rfl) (by kernel_rfl) (fun _ _ _ h => h) (Or.inr ⟨by rfl, rfl⟩) hHeld ?_
        try simp only [Act.put, List.setIfInBounds_toArray, List.set_cons_zero, List.set_cons_succ]
        refine wpAnyH_take (i := 7) (oi := ({ dst := (some 22), op := (Op.call { callee := (Callee.builtin Builtin.len), args := #[(Operand.tmp 21)], argTypes := #[9] }), type := 3, pos := "cell.go:22", after := #[{ on := 6, ground := Ground.data }, { on := 4, ground := Ground.guard }], guard := (some (4, false)) } : Oper)) (v := _) rfl (by kernel_rfl) (by kernel_rfl) (by kernel_rfl) (fun _ _ _ h => h) (Or.inr ⟨by rfl, rfl⟩) hHeld ?_
        try simp only [Act.put, List.setIfInBounds_toArray, List.set_cons_zero, List.set_cons_succ]
        refine wpAnyH_take (i := 8) (oi := ({ dst := (some 23), op := (Op.binOp BinOp.gtr 3 (Operand.tmp 22) (Operand.const (Value.int IntKind.i64 64)) 3), type := 4, pos := "cell.go:22", after := #[{ on := 7, ground := Ground.data }, { on := 4, ground := Ground.guard }], guard := (some (4, false)) } : Oper)) (v := _) rfl (by kernel_rfl) (by kernel_rfl) (by kernel_rfl) (fun _ _ _ h => h) (Or.inr ⟨by rfl, rfl⟩) hHeld ?_
        try simp only [Act.put, List.setIfInBounds_toArray, List.set_cons_zero, List.set_cons_succ]
        refine wpAnyH_take (i := 9) (oi := ({ dst := (some 24), op := (Op.pick (Operand.tmp 19) (Operand.const (Value.bool true)) (Operand.tmp 23)), type := 4, pos := "cell.go:22", after := #[{ on := 4, ground := Ground.data }, { on := 8, ground := Ground.data }], guard := none } : Oper)) (v := ?_) rfl (by kernel_rfl) (by kernel_rfl) (by kernel_rfl) (fun _ _ _ h => h) (Or.inl ⟨by rfl, ?_⟩) hHeld ?_
        rotate_left
        · intro w_ hSw; (try dsimp only at hSw); go_simp; try (with_reducible rfl)
        try simp only [Act.put, List.setIfInBounds_toArray, List.set_cons_zero, List.set_cons_succ]
        refine wpAnyH_take (i := 10) (oi := ({ dst := (some 25), op := (Op.move (Operand.tmp 24)), type := 4, pos := "cell.go:22", after := #[{ on := 9, ground := Ground.data }, { on := 4, ground := Ground.chain }], guard := none } : Oper)) (v := ?_) rfl (by kernel_rfl) (by kernel_rfl) (by kernel_rfl) (fun _ _ _ h => h) (Or.inl ⟨by rfl, ?_⟩) hHeld ?_
        rotate_left
        · intro w_ hSw; (try dsimp only at hSw); go_simp; try (with_reducible rfl)
        try simp only [Act.put, List.setIfInBounds_toArray, List.set_cons_zero, List.set_cons_succ]
        refine wpAnyH_take (i := 11) (oi := ({ dst := (some 26), op := (Op.move (Operand.tmp 3)), type := 3, pos := "cell.go:22", after := #[{ on := 10, ground := Ground.guard }], guard := (some (10, false)) } : Oper)) (v := _) rfl (by kernel_rfl) (by kernel_rfl) (by kernel_rfl) (fun _ _ _ h => h) (Or.inr ⟨by rfl, rfl⟩) hHeld ?_
        try simp only [Act.put, List.setIfInBounds_toArray, List.set_cons_zero, List.set_cons_succ]
        refine wpAnyH_take (i := 12) (oi := ({ dst := (some 27), op := (Op.binOp BinOp.gtr 3 (Operand.tmp 26) (Operand.const (Value.int IntKind.i64 0)) 3), type := 4, pos := "cell.go:22", after := #[{ on := 11, ground := Ground.data }, { on := 10, ground := Ground.guard }], guard := (some (10, false)) } : Oper)) (v := _) rfl (by kernel_rfl) (by kernel_rfl) (by kernel_rfl) (fun _ _ _ h => h) (Or.inr ⟨by rfl, rfl⟩) hHeld ?_
        try simp only [Act.put, List.setIfInBounds_toArray, List.set_cons_zero, List.set_cons_succ]
        refine wpAnyH_take (i := 13) (oi := ({ dst := (some 28), op := (Op.move (Operand.tmp 27)), type := 4, pos := "cell.go:22", after := #[{ on := 12, ground := Ground.data }, { on := 10, ground := Ground.chain }, { on := 10, ground := Ground.guard }], guard := (some (10, false)) } : Oper)) (v := _) rfl (by kernel_rfl) (by kernel_rfl) (by kernel_rfl) (fun _ _ _ h => h) (Or.inr ⟨by rfl, rfl⟩) hHeld ?_
        try simp only [Act.put, List.setIfInBounds_toArray, List.set_cons_zero, List.set_cons_succ]
        refine wpAnyH_take (i := 14) (oi := ({ dst := (some 29), op := (Op.fieldAddr 55 (Operand.tmp 4) 0), type := 0, pos := "cell.go:22", after := #[{ on := 13, ground := Ground.guard }], guard := (some (13, true)) } : Oper)) (v := _) rfl (by kernel_rfl) (by kernel_rfl) (by kernel_rfl) (fun _ _ _ h => h) (Or.inr ⟨by rfl, rfl⟩) hHeld ?_
        try simp only [Act.put, List.setIfInBounds_toArray, List.set_cons_zero, List.set_cons_succ]
        refine wpAnyH_take (i := 15) (oi := ({ dst := (some 30), op := (Op.load 9 (Operand.tmp 29)), type := 9, pos := "cell.go:22", after := #[{ on := 14, ground := Ground.data }, { on := 13, ground := Ground.guard }], guard := (some (13, true)) } : Oper)) (v := _) rfl (by kernel_rfl) (by kernel_rfl) (by kernel_rfl) (fun _ _ _ h => h) (Or.inr ⟨by rfl, rfl⟩) hHeld ?_
        try simp only [Act.put, List.setIfInBounds_toArray, List.set_cons_zero, List.set_cons_succ]
        refine wpAnyH_take (i := 16) (oi := ({ dst := (some 31), op := (Op.move (Operand.tmp 0)), type := 24, pos := "cell.go:22", after := #[{ on := 13, ground := Ground.guard }], guard := (some (13, true)) } : Oper)) (v := _) rfl (by kernel_rfl) (by kernel_rfl) (by kernel_rfl) (fun _ _ _ h => h) (Or.inr ⟨by rfl, rfl⟩) hHeld ?_
        try simp only [Act.put, List.setIfInBounds_toArray, List.set_cons_zero, List.set_cons_succ]
        refine wpAnyH_take (i := 17) (oi := ({ dst := (some 32), op := (Op.move (Operand.tmp 3)), type := 3, pos := "cell.go:22", after := #[{ on := 13, ground := Ground.guard }], guard := (some (13, true)) } : Oper)) (v := _) rfl (by kernel_rfl) (by kernel_rfl) (by kernel_rfl) (fun _ _ _ h => h) (Or.inr ⟨by rfl, rfl⟩) hHeld ?_
        try simp only [Act.put, List.setIfInBounds_toArray, List.set_cons_zero, List.set_cons_succ]
        refine wpAnyH_take (i := 18) (oi := ({ dst := (some 33), op := (Op.binOp BinOp.sub 3 (Operand.tmp 32) (Operand.const (Value.int IntKind.i64 1)) 3), type := 3, pos := "cell.go:22", after := #[{ on := 17, ground := Ground.data }, { on := 13, ground := Ground.guard }], guard := (some (13, true)) } : Oper)) (v := _) rfl (by kernel_rfl) (by kernel_rfl) (by kernel_rfl) (fun _ _ _ h => h) (Or.inr ⟨by rfl, rfl⟩) hHeld ?_
        try simp only [Act.put, List.setIfInBounds_toArray, List.set_cons_zero, List.set_cons_succ]
        refine wpAnyH_take (i := 19) (oi := ({ dst := (some 34), op := (Op.indexAddr 24 (Operand.tmp 31) (Operand.tmp 33)), type := 0, pos := "cell.go:22", after := #[{ on := 16, ground := Ground.data }, { on := 18, ground := Ground.data }, { on := 13, ground := Ground.guard }], guard := (some (13, true)) } : Oper)) (v := _) rfl (by kernel_rfl) (by kernel_rfl) (by kernel_rfl) (fun _ _ _ h => h) (Or.inr ⟨by rfl, rfl⟩) hHeld ?_
        try simp only [Act.put, List.setIfInBounds_toArray, List.set_cons_zero, List.set_cons_succ]
        refine wpAnyH_take (i := 20) (oi := ({ dst := (some 35), op := (Op.fieldAddr 55 (Operand.tmp 34) 0), type := 0, pos := "cell.go:22", after := #[{ on := 19, ground := Ground.data }, { on := 13, ground := Ground.guard }], guard := (some (13, true)) } : Oper)) (v := _) rfl (by kernel_rfl) (by kernel_rfl) (by kernel_rfl) (fun _ _ _ h => h) (Or.inr ⟨by rfl, rfl⟩) hHeld ?_
        try simp only [Act.put, List.setIfInBounds_toArray, List.set_cons_zero, List.set_cons_succ]
        refine wpAnyH_take (i := 21) (oi := ({ dst := (some 36), op := (Op.load 9 (Operand.tmp 35)), type := 9, pos := "cell.go:22", after := #[{ on := 20, ground := Ground.data }, { on := 13, ground := Ground.guard }], guard := (some (13, true)) } : Oper)) (v := _) rfl (by kernel_rfl) (by kernel_rfl) (by kernel_rfl) (fun _ _ _ h => h) (Or.inr ⟨by rfl, rfl⟩) hHeld ?_
        try simp only [Act.put, List.setIfInBounds_toArray, List.set_cons_zero, List.set_cons_succ]
        refine wpAnyH_take (i := 22) (oi := ({ dst := (some 37), op := (Op.binOp BinOp.leq 9 (Operand.tmp 30) (Operand.tmp 36) 9), type := 4, pos := "cell.go:22", after := #[{ on := 15, ground := Ground.data }, { on := 21, ground := Ground.data }, { on := 13, ground := Ground.guard }], guard := (some (13, true)) } : Oper)) (v := _) rfl (by kernel_rfl) (by kernel_rfl) (by kernel_rfl) (fun _ _ _ h => h) (Or.inr ⟨by rfl, rfl⟩) hHeld ?_
        try simp only [Act.put, List.setIfInBounds_toArray, List.set_cons_zero, List.set_cons_succ]
        refine wpAnyH_take (i := 23) (oi := ({ dst := (some 38), op := (Op.pick (Operand.tmp 28) (Operand.tmp 37) (Operand.const (Value.bool false))), type := 4, pos := "cell.go:22", after := #[{ on := 13, ground := Ground.data }, { on := 22, ground := Ground.data }, { on := 10, ground := Ground.guard }], guard := (some (10, false)) } : Oper)) (v := _) rfl (by kernel_rfl) (by kernel_rfl) (by kernel_rfl) (fun _ _ _ h => h) (Or.inr ⟨by rfl, rfl⟩) hHeld ?_
        try simp only [Act.put, List.setIfInBounds_toArray, List.set_cons_zero, List.set_cons_succ]
        refine wpAnyH_take (i := 24) (oi := ({ dst := (some 39), op := (Op.pick (Operand.tmp 25) (Operand.const (Value.bool true)) (Operand.tmp 38)), type := 4, pos := "cell.go:22", after := #[{ on := 10, ground := Ground.data }, { on := 23, ground := Ground.data }], guard := none } : Oper)) (v := ?_) rfl (by kernel_rfl) (by kernel_rfl) (by kernel_rfl) (fun _ _ _ h => h) (Or.inl ⟨by rfl, ?_⟩) hHeld ?_
        rotate_left
        · intro w_ hSw; (try dsimp only at hSw); go_simp; try (with_reducible rfl)
        try simp only [Act.put, List.setIfInBounds_toArray, List.set_cons_zero, List.set_cons_succ]
        refine wpAnyH_done (by kernel_rfl) ?_ _
        go_wp2_with fail
        go_ret
        exact ⟨by rw [HBAD.out (by (try rw [hpd]); simp [pairAt, *])]; rfl, HP.out.below⟩
    · have d1 : decide (x < (l.length : Int)) = false := decide_eq_false (by omega)
      have HE := Aside0.mk (show checkS l = 0 from by rw [HA.out, show l.length = j by have := HK.out; omega, HG.out]; rfl)
      clear hx c1
      go_wp2_with fail
      go_ret
      exact ⟨by rw [HE.out]; rfl, HP.out.below⟩
end Go.Proofs.Ytlgnfbgjdkbfoaa.Pg
namespace Go.Proofs.Ytlgnfbgjdkbfoaa.Pg
open Go.RowKit Go.Proofs.Ytlgnfbgjdkbfoaa.XH Go.Proofs.Ytlgnfbgjdkbfoaa.Wd Go.Proofs.YtlgnfbgjdkbfoaaW.PrintWords Go.Proofs.YtlgnfbgjdkbfoaaW.PrintLast Go.Proofs.YtlgnfbgjdkbfoaaW.PrintMore Go.Proofs.YtlgnfbgjdkbfoaaXe Go.Proofs.YtlgnfbgjdkbfoaaXs
set_option linter.unusedVariables false
set_option linter.unusedSimpArgs false
attribute [local go_sem ↓] Go.wp_at_zero Go.wp_at_succ
/-- is a link in its place -/
def linkAt (l : List S66) (j : Nat) (y : S66) : Bool := keyOk y.f0 && (decide (j = 0) || Op.bytesLess ((l.getD (j - 1) z66).f0.toList) y.f0.toList) && decide (1 ≤ y.f2) && decide (y.f2 ≤ 65536)
def linksTo (l : List S66) (n : Nat) : Bool := (List.range n).all fun j => linkAt l j (l.getD j z66)
def sumN (l : List S66) : Int := (l.map (·.f2)).sum
/-- may links be -/
def linksS (l : List S66) : Bool := linksTo l l.length && (decide (0 < l.length) && decide (sumN l ≤ 65536))
theorem linksTo_succ (l : List S66) (j : Nat) : linksTo l (j + 1) = (linksTo l j && linkAt l j (l.getD j z66)) := by
  simp only [linksTo, List.range_succ, List.all_append, List.all_cons, List.all_nil, Bool.and_true]
theorem linksTo_bad (l : List S66) {j n : Nat} (hj : j < n) (h : linkAt l j (l.getD j z66) = false) : linksTo l n = false := by
  rw [← Bool.not_eq_true]
  intro ha
  have := List.all_eq_true.1 ha j (List.mem_range.2 hj)
  rw [h] at this
  cases this
theorem linksTo_n {l : List S66} {n j : Nat} {y : S66} (h : linksTo l n = true) (hj : j < n) (hy : l[j]? = some y) : 1 ≤ y.f2 ∧ y.f2 ≤ 65536 := by
  have := List.all_eq_true.1 h j (List.mem_range.2 hj)
  rw [show l.getD j z66 = y from by rw [List.getD_eq_getElem?_getD, hy]; rfl] at this
  simp only [linkAt, Bool.and_eq_true, decide_eq_true_eq] at this
  exact ⟨this.1.2, this.2⟩
theorem sum_take (l : List S66) (j : Nat) (y : S66) (h : l[j]? = some y) : sumN (l.take (j + 1)) = sumN (l.take j) + y.f2 := by
  rw [take_snocD l j y h]
  simp [sumN]
theorem sum_room (l : List S66) (h : ∀ y ∈ l, 1 ≤ y.f2 ∧ y.f2 ≤ 65536) : 0 ≤ sumN l ∧ sumN l ≤ 65536 * l.length := by
  induction l with
  | nil => simp [sumN]
  | cons y l ih =>
    have h1 := h y (List.mem_cons_self ..)
    have h2 := ih fun z hz => h z (List.mem_cons_of_mem _ hz)
    simp only [sumN, List.map_cons, List.sum_cons, List.length_cons] at h2 ⊢
    constructor
    · omega
    · have : (65536 : Int) * ((l.length + 1 : Nat) : Int) = 65536 * l.length + 65536 := by push_cast; omega
      omega
/-- an element's last cell, its first -/
theorem cell_n {w : World} {b : Nat} {x : S66} {t : TypeId} (h : w.heap[b]? = some (.cells (c66 x).toArray t (0, 0))) : w.cell? ⟨b, 33, none⟩ = some (.int .i64 x.f2) := blk_cell h 33
theorem cell_f {w : World} {b : Nat} {x : S66} {t : TypeId} (h : w.heap[b]? = some (.cells (c66 x).toArray t (0, 0))) : w.cell? ⟨b, 0, none⟩ = some (.string x.f0) := blk_cell h 0
set_option maxHeartbeats 8000000 in
set_option maxRecDepth 100000 in
theorem c_lcount (Ak : Option Addr) (nk ck : Nat) (A : Option Addr) (c : Nat) (l : List S66) (w : World) (h1 : k66.C w A l.length l) (hn : ∀ y ∈ l, 1 ≤ y.f2 ∧ y.f2 ≤ 65536) (hl : l.length ≤ 1000000) :
    Calls Try.prog 124 #[.agg #[.slice Ak nk ck, .slice A l.length c]] w fun e w' => e = .returned (.int .i64 (sumN l)) ∧ Below w.heap.size w w' := by
  have HR := Aside0.mk h1
  have HL := Aside0.mk hl
  have HN := Aside0.mk hn
  have HP := Aside0.mk (Hp.start w)
  have hll : (l.length : Int) ≤ 1000000 := by omega
  clear h1 hl hn
  go_enter Try.func124, Try.ntmps124
  go_wp2_with (first | ((with_reducible refine gate_dst (N := 1) rfl ?_); refine ev_box rfl 113 (.tmp 0) rfl (#[.slice Ak nk ck, .slice A l.length c]) rfl ?_; intro g1 wa hge hg hb; have HPn := Aside0.mk (HP.out.newB hb hg hge); clear HP; have HP := HPn; clear HPn; clear hge hg hb; have hc1 : wa.cell? ⟨g1, 1, none⟩ = some (.slice A l.length c) := blk_cell (HP.out.blk 0 rfl) 1))
  clear hc1
  have HPn := Aside0.mk (HP.out.drop1)
  clear HP
  have HP := HPn
  clear HPn
  go_loopg [3, 9] l.length (fun kq v3 vq w' => ∃ (j : Nat) (x s : Int), v3 = .int .i64 s ∧ vq = .int .i64 x ∧ Aside0 (x = (j : Int)) ∧ Aside0 (kq + j = l.length) ∧ Aside0 (s = sumN (l.take j)) ∧ Aside0 (Hp w w' []))
  case atStart => exact ⟨0, 0, 0, rfl, rfl, ⟨rfl⟩, ⟨rfl⟩, ⟨rfl⟩, HP⟩
  clear HP
  obtain ⟨j, x, s, rfl, rfl, HX, HK, HS, HP⟩ := hrel
  have hx := HX.out
  by_cases c1 : j < l.length
  · have d1 : decide (x < (l.length : Int)) = true := decide_eq_true (by omega)
    have ex : IntKind.i64.wrap (x + 1) = x + 1 := IntWalk.i64_in _ (by omega)
    have p0 : 0 ≤ x := by omega
    have q0 : x < (l.length : Int) := by omega
    obtain ⟨y, hy⟩ : ∃ p, l[j]? = some p := ⟨_, List.getElem?_eq_getElem c1⟩
    obtain ⟨Ab, Ao, rfl⟩ := C_addrK (by decide) HR.out (by omega)
    obtain ⟨cs, hcs, hra⟩ := range_K HR.out hy
    have hcs2 := k66_open hcs
    subst hcs2
    have hxt : x.toNat = j := by omega
    have HRA := Aside0.mk (show w.rangeAt Ab (Ao + x.toNat * Kd.sz k66) (c66 y) from by rw [hxt]; exact hra)
    have HY := Aside0.mk hy
    have hi9 : (Try.prog.info? 66).map (·.size) = some (c66 y).length := by kernel_rfl
    have hs1 := sum_room (l.take j) fun z hz => HN.out z (List.mem_of_mem_take hz)
    have hy1 := HN.out y (List.mem_of_getElem? hy)
    rw [← HS.out, List.length_take] at hs1
    have es : IntKind.i64.wrap (s + y.f2) = s + y.f2 := IntWalk.i64_in _ (by omega)
    clear hx c1 hy hcs hra hxt hs1 hy1
    go_wp2_with (first | ((with_reducible refine gate_dst (N := 12) rfl ?_); refine ev_elem rfl 66 (.tmp 11) rfl Ab (Ao + x.toNat * Kd.sz k66) rfl (c66 y) (fun j_ v_ hv_ => (HP.out.below.cell (World.block_lt_of_cell? w _ (HRA.out j_ v_ hv_))).trans (HRA.out j_ v_ hv_)) Try.underlying66 rfl hi9 ?_) | ((with_reducible refine gate_dst (N := 5) rfl ?_); refine ev_alloc rfl 66 rfl (.agg (c66 z66).toArray) (by kernel_rfl) ?_; intro gx wc hge hg hb; have HPn := Aside0.mk (HP.out.newB hb hg hge); clear HP; have HP := HPn; clear HPn; clear hge hg hb) | ((with_reducible refine gate_store (t := 66) (p := 5) rfl ?_); refine ev_store rfl 66 (.tmp 5) (.tmp 12) rfl rfl _ rfl (cells := (c66 y).toArray) rfl (HP.out.blk 0 rfl) (by rw [List.size_toArray]; exact hi9) rfl (one_c66 y) ?_; intro wd hg hgr; have HPn := Aside0.mk (HP.out.setB 0 rfl hgr hg); clear HP; have HP := HPn; clear HPn; clear hg hgr; have hcx : wd.cell? ⟨gx, 33, none⟩ = some (.int .i64 y.f2) := cell_n (HP.out.blk 0 rfl)))
    have HPn := Aside0.mk (HP.out.drop1)
    clear HP
    go_roundg (gk - 1)
    case measure => have := HK.out; have := (List.getElem?_eq_some_iff.1 HY.out).1; omega
    case rel => exact ⟨j + 1, x + 1, s + y.f2, rfl, rfl, ⟨by have := HX.out; omega⟩, ⟨by have := HK.out; have := (List.getElem?_eq_some_iff.1 HY.out).1; omega⟩, ⟨by rw [sum_take l j y HY.out, HS.out]⟩, HPn⟩
  · have d1 : decide (x < (l.length : Int)) = false := decide_eq_false (by omega)
    have HE := Aside0.mk (show s = sumN l by rw [HS.out, List.take_of_length_le (by omega)])
    clear hx c1
    go_wp2_with fail
    go_ret
    exact ⟨by rw [HE.out]; rfl, HP.out.below⟩
end Go.Proofs.Ytlgnfbgjdkbfoaa.Pg
namespace Go.Proofs.Ytlgnfbgjdkbfoaa.Pg
open Go.RowKit Go.Proofs.Ytlgnfbgjdkbfoaa.XH Go.Proofs.Ytlgnfbgjdkbfoaa.Wd Go.Proofs.YtlgnfbgjdkbfoaaW.PrintWords Go.Proofs.YtlgnfbgjdkbfoaaW.PrintLast Go.Proofs.YtlgnfbgjdkbfoaaW.PrintMore Go.Proofs.YtlgnfbgjdkbfoaaXe Go.Proofs.YtlgnfbgjdkbfoaaXs
set_option linter.unusedVariables false
set_option linter.unusedSimpArgs false
attribute [local go_sem ↓] Go.wp_at_zero Go.wp_at_succ
def hdS (l : List ByteArray) : ByteArray := l.headD ByteArray.empty
theorem first_f (l : List ByteArray) : page_named_first.f l = some (hdS l) := by
  unfold page_named_first.f
  cases l with
  | nil => rfl
  | cons x xs => rw [if_neg (by rw [List.length_cons]; omega), if_pos (by rw [List.length_cons]; omega)]; rfl
/-- a page's first key -/
def firstP (lv : Int) (l1 : List S55) (l2 : List S66) : ByteArray := if lv = 0 then hdS (l1.map (·.f0)) else hdS (l2.map (·.f0))
set_option maxHeartbeats 8000000 in
set_option maxRecDepth 100000 in
theorem c_first (lv : Int) (A1 : Option Addr) (c1 : Nat) (l1 : List S55) (A2 : Option Addr) (c2 : Nat) (l2 : List S66) (w : World) (h1 : k55.C w A1 l1.length l1) (h2 : k66.C w A2 l2.length l2) (hc1 : l1.length ≤ c1) (hc2 : l2.length ≤ c2) (hl1 : l1.length ≤ 1000000) (hl2 : l2.length ≤ 1000000) :
    Calls Try.prog 46 #[.agg #[.int .i64 lv, .slice A1 l1.length c1, .slice A2 l2.length c2]] w fun e w' => e = .returned (.string (firstP lv l1 l2)) ∧ Below w.heap.size w w' := by
  have H1 := Aside0.mk h1
  have H2 := Aside0.mk h2
  have HL := Aside0.mk (And.intro hl1 hl2)
  have HC := Aside0.mk (And.intro hc1 hc2)
  clear h1 h2 hl1 hl2 hc1 hc2
  have HP := Aside0.mk (Hp.start w)
  go_enter Try.func46, Try.ntmps46
  go_wp2_with (first | ((with_reducible refine gate_dst (N := 1) rfl ?_); refine ev_box rfl 27 (.tmp 0) rfl (#[.int .i64 lv, .slice A1 l1.length c1, .slice A2 l2.length c2]) rfl ?_; intro g1 wa hge hg hb; have HPn := Aside0.mk (HP.out.newB hb hg hge); clear HP; have HP := HPn; clear HPn; clear hge hg hb) | ((with_reducible refine gate_dst (N := 3) rfl ?_); refine ev_load rfl 27 (.tmp 1) rfl g1 rfl (HP.out.blk 0 rfl) Try.underlying27 rfl (by kernel_rfl) ?_))
  by_cases hlv : lv = 0
  · refine (c_of0 lv A1 c1 l1 A2 c2 l2 wa hlv (Kd.C_below H1.out HP.out.below) HL.out.1).mono ?_; rintro e wb ⟨vk, rfl, hR, hb⟩
    obtain ⟨Ak, ck, rfl⟩ := Kd.R_slice hR
    have HK := Aside0.mk (Kd.R_reads' hR)
    have HPn := Aside0.mk (HP.out.call hb)
    clear HP hR hb
    have HP := HPn
    clear HPn
    have hm : ∀ W, (method 258 111 (.agg #[.slice Ak l1.length ck, .slice A1 l1.length c1]) "retcon/page.first").run Try.prog W = .ok (120, .agg #[.slice Ak l1.length ck]) W := fun _ => by kernel_rfl
    have CC := Aside0.mk (page_named_first.calls Ak ck (l1.map (·.f0)) _ wb HK.out.2.2 HK.out.2.1 (first_f _))
    simp only [List.length_map] at CC
    go_wp2_with fail
    refine CC.out.mono ?_; rintro e wc ⟨rfl, hb⟩
    have HPn := Aside0.mk (HP.out.call hb)
    clear HP hb CC
    have HP := HPn
    clear HPn
    go_wp2_with fail
    go_ret
    exact ⟨by simp only [firstP, if_pos hlv]; rfl, HP.out.below⟩
  · refine (c_of1 lv A1 c1 l1 A2 c2 l2 wa hlv (Kd.C_below H2.out HP.out.below) HL.out.2).mono ?_; rintro e wb ⟨vk, rfl, hR, hb⟩
    obtain ⟨Ak, ck, rfl⟩ := Kd.R_slice hR
    have HK := Aside0.mk (Kd.R_reads' hR)
    have HPn := Aside0.mk (HP.out.call hb)
    clear HP hR hb
    have HP := HPn
    clear HPn
    have hm : ∀ W, (method 258 113 (.agg #[.slice Ak l2.length ck, .slice A2 l2.length c2]) "retcon/page.first").run Try.prog W = .ok (120, .agg #[.slice Ak l2.length ck]) W := fun _ => by kernel_rfl
    have CC := Aside0.mk (page_named_first.calls Ak ck (l2.map (·.f0)) _ wb HK.out.2.2 HK.out.2.1 (first_f _))
    simp only [List.length_map] at CC
    go_wp2_with fail
    refine CC.out.mono ?_; rintro e wc ⟨rfl, hb⟩
    have HPn := Aside0.mk (HP.out.call hb)
    clear HP hb CC
    have HP := HPn
    clear HPn
    go_wp2_with fail
    go_ret
    exact ⟨by simp only [firstP, if_neg hlv]; rfl, HP.out.below⟩
end Go.Proofs.Ytlgnfbgjdkbfoaa.Pg
