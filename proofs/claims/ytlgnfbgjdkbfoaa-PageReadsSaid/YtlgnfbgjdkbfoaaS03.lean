import Derived.Test.YtlgnfbgjdkbfoaaS02
namespace Go.Proofs.Ytlgnfbgjdkbfoaa.XH
open Go.RowKit Go.Proofs.YtlgnfbgjdkbfoaaW.PrintWords Go.Proofs.YtlgnfbgjdkbfoaaW.PrintLast Go.Proofs.YtlgnfbgjdkbfoaaW.PrintMore
attribute [local go_sem] max2_int min2_int max_two min_two max_three min_three max_four min_four   -- for this text's walks alone
set_option linter.unusedVariables false
set_option linter.unusedSimpArgs false

-- NOT PRINTED: function 9 (retconkit_LentBytes)
def page_level.f (a0 : Int) : Option (Bool) := if a0 ≥ 0 then (some (decide (a0 ≤ 20))) else (some false)
set_option maxHeartbeats 8000000 in
set_option maxRecDepth 100000 in
theorem page_level.calls (a0 : Int) (r : Bool) (w : World) (h : page_level.f a0 = some r) :
    Calls Try.prog 58 #[.int .i64 a0] w fun e w' => e = .returned (.bool r) ∧ Drawn0 w w' := by
  have H : (if a0 ≥ 0 then (some (decide (a0 ≤ 20))) else (some false)) = some r := h
  clear h
  by_cases c2 : a0 ≥ 0
  · rw [if_pos c2] at H
    have c2b0 : decide (0 ≤ a0) = true := decide_eq_true c2
    clear c2
    obtain rfl := Option.some.inj H
    go_enter Try.func58, Try.ntmps58
    go_wp2
    go_ret
    exact ⟨by first | rfl | (simp; done) | (simp [*]; done), by repeat (first | exact Drawn0.refl _ | apply Drawn0.step)⟩
  · rw [if_neg c2] at H
    have c2b0 : decide (0 ≤ a0) = false := decide_eq_false c2
    clear c2
    obtain rfl := Option.some.inj H
    go_enter Try.func58, Try.ntmps58
    go_wp2
    go_ret
    exact ⟨by first | rfl | (simp; done) | (simp [*]; done), by repeat (first | exact Drawn0.refl _ | apply Drawn0.step)⟩

-- NOT PRINTED: function 59 (page_of)

-- NOT PRINTED: function 18 (page_Check)

-- NOT PRINTED: function 30 (word_Open)

-- NOT PRINTED: function 64 (word_Reader_try)

-- NOT PRINTED: function 31 (word_Reader_Int)

-- NOT PRINTED: function 32 (word_Reader_Count)

-- NOT PRINTED: function 33 (word_Reader_Fault)

-- NOT PRINTED: function 34 (word_Reader_Text)

-- NOT PRINTED: function 35 (word_Reader_ID)

-- NOT PRINTED: function 72 (word_Reader_Left)

-- NOT PRINTED: function 36 (word_Reader_End)

-- NOT PRINTED: function 10 (page_Read)
/-- A state of type 99 at block g of W; what its slices lead to came in by w0. -/
def IsS99 (w0 W : World) (g : Nat) (f0 : List Int) (f1 : Int) (f2 : Int) (f3 : Int) : Prop := ∃ A0 c0, W.heap[g]? = some (.cells #[.slice A0 f0.length c0, .int .i64 f1, .int .i64 f2, .int .i64 f3] 99 (0, 0)) ∧ w0.heap.size ≤ g ∧ Kd.C (Kd.int .u8) w0 A0 f0.length f0
theorem IsS99.grown {w0 W : World} {g : Nat} {f0 : List Int} {f1 : Int} {f2 : Int} {f3 : Int} {W1 : World} {row : Option Nat} (h : IsS99 w0 W g f0 f1 f2 f3) (hw : W.grownBy W1 row) (hne : some g ≠ row) : IsS99 w0 W1 g f0 f1 f2 f3 := by
  obtain ⟨A0, c0, hb, hg, hr0⟩ := h
  exact ⟨A0, c0, blk_grown hb hw hne, hg, hr0⟩
theorem IsS99.kept {w0 W : World} {g : Nat} {f0 : List Int} {f1 : Int} {f2 : Int} {f3 : Int} {W1 : World} {S : Nat → Prop} (h : IsS99 w0 W g f0 f1 f2 f3) (hk : Kept W W1 S) (hne : ¬ S g) : IsS99 w0 W1 g f0 f1 f2 f3 := by
  obtain ⟨A0, c0, hb, hg, hr0⟩ := h
  exact ⟨A0, c0, blk_kept hb hk hne, hg, hr0⟩
theorem IsS99.below {w0 W : World} {g : Nat} {f0 : List Int} {f1 : Int} {f2 : Int} {f3 : Int} {W1 : World} (h : IsS99 w0 W g f0 f1 f2 f3) (hw : Below W.heap.size W W1) : IsS99 w0 W1 g f0 f1 f2 f3 := h.grown (grown_of_below hw none) (by simp)
theorem IsS99.alloc {w0 W : World} {g : Nat} {f0 : List Int} {f1 : Int} {f2 : Int} {f3 : Int} (h : IsS99 w0 W g f0 f1 f2 f3) (o : Obj) : IsS99 w0 (W.alloc o) g f0 f1 f2 f3 := h.below (below_alloc (Below.refl _ _) o)
theorem IsS99.drewN {w0 W : World} {g : Nat} {f0 : List Int} {f1 : Int} {f2 : Int} {f3 : Int} (h : IsS99 w0 W g f0 f1 f2 f3) (m : Nat) : IsS99 w0 (W.drewN m) g f0 f1 f2 f3 := h
theorem IsS99.drew {w0 W : World} {g : Nat} {f0 : List Int} {f1 : Int} {f2 : Int} {f3 : Int} (h : IsS99 w0 W g f0 f1 f2 f3) : IsS99 w0 W.drew g f0 f1 f2 f3 := h
theorem IsS99.at_ {w0 W : World} {g : Nat} {f0 : List Int} {f1 : Int} {f2 : Int} {f3 : Int} {w' : World} {m : Nat} (hq : W.drewN m = w') (h : IsS99 w0 W g f0 f1 f2 f3) : IsS99 w0 w' g f0 f1 f2 f3 := by subst hq; exact IsS99.drewN h m
theorem IsS99.apart {w0 W : World} {g : Nat} {f0 : List Int} {f1 : Int} {f2 : Int} {f3 : Int} {α : Type} {d : Kd α} {e : Nat} {base : Nat} {ok : Nat → Prop} {v : Value} {xs : List α} (h : IsS99 w0 W g f0 f1 f2 f3) (ho : d.R e W base ok v xs) (ht : ∀ q, q ∈ e :: d.E → q ≠ 99) : d.R e W base (fun k => ok k ∧ k ≠ g) v xs := by
  obtain ⟨A0, c0, hb, hg, hr0⟩ := h
  exact Kd.R_types ho hb ht
theorem IsS99.lt {w0 W : World} {g : Nat} {f0 : List Int} {f1 : Int} {f2 : Int} {f3 : Int} (h : IsS99 w0 W g f0 f1 f2 f3) : g < W.heap.size := by
  obtain ⟨A0, c0, hb, hg, hr0⟩ := h
  exact blk_lt hb
theorem IsS99.new (w0 W : World) (A0 : Option Addr) (c0 : Nat) (f0 : List Int) (f1 : Int) (f2 : Int) (f3 : Int) (hB : Below w0.heap.size w0 W) (hr0 : Kd.C (Kd.int .u8) w0 A0 f0.length f0) : IsS99 w0 (W.alloc (.cells #[.slice A0 f0.length c0, .int .i64 f1, .int .i64 f2, .int .i64 f3] 99)) W.heap.size f0 f1 f2 f3 := ⟨A0, c0, by simpa using heap_alloc_new W _, hB.size, hr0⟩
def retconref17_level.f (a0 : Int) : Option (Bool) := if a0 ≥ 0 then (some (decide (a0 ≤ 20))) else (some false)
set_option maxHeartbeats 8000000 in
set_option maxRecDepth 100000 in
theorem retconref17_level.calls (a0 : Int) (r : Bool) (w : World) (h : retconref17_level.f a0 = some r) :
    Calls Try.prog 61 #[.int .i64 a0] w fun e w' => e = .returned (.bool r) ∧ Drawn0 w w' := by
  have H : (if a0 ≥ 0 then (some (decide (a0 ≤ 20))) else (some false)) = some r := h
  clear h
  by_cases c2 : a0 ≥ 0
  · rw [if_pos c2] at H
    have c2b0 : decide (0 ≤ a0) = true := decide_eq_true c2
    clear c2
    obtain rfl := Option.some.inj H
    go_enter Try.func61, Try.ntmps61
    go_wp2
    go_ret
    exact ⟨by first | rfl | (simp; done) | (simp [*]; done), by repeat (first | exact Drawn0.refl _ | apply Drawn0.step)⟩
  · rw [if_neg c2] at H
    have c2b0 : decide (0 ≤ a0) = false := decide_eq_false c2
    clear c2
    obtain rfl := Option.some.inj H
    go_enter Try.func61, Try.ntmps61
    go_wp2
    go_ret
    exact ⟨by first | rfl | (simp; done) | (simp [*]; done), by repeat (first | exact Drawn0.refl _ | apply Drawn0.step)⟩
def page_pairs_count.f (l0_0 : List ByteArray) (l0_1 : List (S55)) : Option (Int) := some (l0_1.length : Int)
set_option maxHeartbeats 8000000 in
set_option maxRecDepth 100000 in
theorem page_pairs_count.calls (A0_0 : Option Addr) (c0_0 : Nat) (l0_0 : List ByteArray) (A0_1 : Option Addr) (c0_1 : Nat) (l0_1 : List (S55)) (r : Int) (w : World) (hr0_0 : Kd.C Kd.string w A0_0 l0_0.length l0_0) (hc0_0 : l0_0.length ≤ c0_0) (hr0_1 : Kd.C k55 w A0_1 l0_1.length l0_1) (hc0_1 : l0_1.length ≤ c0_1) (h : page_pairs_count.f l0_0 l0_1 = some r) :
    Calls Try.prog 122 #[.agg #[.slice A0_0 l0_0.length c0_0, .slice A0_1 l0_1.length c0_1]] w fun e w' => e = .returned (.int .i64 r) ∧ Below w.heap.size w w' := by
  have hu111 := Try.underlying111
  have HR0_0 := Aside0.mk hr0_0
  have HC0_0 := Aside0.mk hc0_0
  clear hr0_0 hc0_0
  have HR0_1 := Aside0.mk hr0_1
  have HC0_1 := Aside0.mk hc0_1
  clear hr0_1 hc0_1
  have HB := Aside0.mk (Below.refl w.heap.size w)
  have H : (some (l0_1.length : Int)) = some r := h
  clear h
  obtain rfl := Option.some.inj H
  go_enter Try.func122, Try.ntmps122
  go_wp2_with (first | ((with_reducible refine gate_dst (N := 1) rfl ?_); refine box_event ?hg (N := 1) ?hd (cs := #[.slice A0_0 l0_0.length c0_0, .slice A0_1 l0_1.length c0_1]) (t := 111) ?hr ?_; (case hd => rfl); (case hg => rfl); (case hr => first | (go_simp; done) | (go_simp; rfl)); intro gb286 hg w2 hbox hb; have n0_ := Aside0.mk (below_step (by repeat (first | (with_reducible first | exact HB.out | apply below_alloc | apply pw_below_drewN | apply below_drew1) | exact HB.out)) hb); have n1_ := Aside0.mk (hbox); have n2_ := Aside0.mk ((by rw [hg]; exact (below_size (by repeat (first | (with_reducible first | exact HB.out | apply below_alloc | apply pw_below_drewN | apply below_drew1) | exact HB.out))) : w.heap.size ≤ gb286)); have n3_ := Aside0.mk ((by rw [hg]; exact (below_size (by repeat (first | (with_reducible first | exact HB.out | apply below_alloc | apply pw_below_drewN | apply below_drew1) | exact HB.out))) : w.heap.size ≤ gb286)); clear HB; have HB := n0_; have BK286 := n1_; have GW286 := n2_; have GE286 := n3_; clear n0_ n1_ n2_ n3_; clear hb hbox hg; have hcz3_0 : w2.cell? ⟨gb286, 0, none⟩ = some (.slice A0_0 l0_0.length c0_0) := (blk_cell BK286.out 0).trans rfl; have hcz3_1 : w2.cell? ⟨gb286, 1, none⟩ = some (.slice A0_1 l0_1.length c0_1) := (blk_cell BK286.out 1).trans rfl; have hfz3_0 := blk_frozen BK286.out 0; have hfz3_1 := blk_frozen BK286.out 1))
  go_ret
  exact ⟨by first | rfl | (simp [errW_none, errW_some] <;> rfl) | (simp [*, errW_none, errW_some] <;> rfl), by repeat (first | (with_reducible first | exact HB.out | apply below_alloc | apply pw_below_drewN | apply below_drew1 | refine below_set ?_ GE286.out) | exact HB.out)⟩
def page_named_first.f (l0_0 : List ByteArray) : Option (ByteArray) := if (l0_0.length : Int) = 0 then (some (⟨#[]⟩ : ByteArray)) else (if 0 < (l0_0.length : Int) then (some (rdOf ByteArray.empty l0_0 0)) else (none))
set_option maxHeartbeats 8000000 in
set_option maxRecDepth 100000 in
theorem page_named_first.calls (A0_0 : Option Addr) (c0_0 : Nat) (l0_0 : List ByteArray) (r : ByteArray) (w : World) (hr0_0 : Kd.C Kd.string w A0_0 l0_0.length l0_0) (hc0_0 : l0_0.length ≤ c0_0) (h : page_named_first.f l0_0 = some r) :
    Calls Try.prog 120 #[.agg #[.slice A0_0 l0_0.length c0_0]] w fun e w' => e = .returned (.string r) ∧ Below w.heap.size w w' := by
  have hu109 := Try.underlying109
  have HR0_0 := Aside0.mk hr0_0
  have HC0_0 := Aside0.mk hc0_0
  clear hr0_0 hc0_0
  have HB := Aside0.mk (Below.refl w.heap.size w)
  have H : (if (l0_0.length : Int) = 0 then (some (⟨#[]⟩ : ByteArray)) else (if 0 < (l0_0.length : Int) then (some (rdOf ByteArray.empty l0_0 0)) else (none))) = some r := h
  clear h
  by_cases c2 : (l0_0.length : Int) = 0
  · rw [if_pos c2] at H
    have c2b0 : ((l0_0.length : Int) == 0) = true := beq_iff_eq.mpr c2
    have c2b1 : ((l0_0.length : Int) != 0) = false := bne_eq_false_iff_eq.mpr c2
    clear c2
    obtain rfl := Option.some.inj H
    go_enter Try.func120, Try.ntmps120
    go_wp2_with (first | ((with_reducible refine gate_dst (N := 1) rfl ?_); refine box_event ?hg (N := 1) ?hd (cs := #[.slice A0_0 l0_0.length c0_0]) (t := 109) ?hr ?_; (case hd => rfl); (case hg => rfl); (case hr => first | (go_simp; done) | (go_simp; rfl)); intro gb287 hg w3 hbox hb; have n0_ := Aside0.mk (below_step (by repeat (first | (with_reducible first | exact HB.out | apply below_alloc | apply pw_below_drewN | apply below_drew1) | exact HB.out)) hb); have n1_ := Aside0.mk (hbox); have n2_ := Aside0.mk ((by rw [hg]; exact (below_size (by repeat (first | (with_reducible first | exact HB.out | apply below_alloc | apply pw_below_drewN | apply below_drew1) | exact HB.out))) : w.heap.size ≤ gb287)); have n3_ := Aside0.mk ((by rw [hg]; exact (below_size (by repeat (first | (with_reducible first | exact HB.out | apply below_alloc | apply pw_below_drewN | apply below_drew1) | exact HB.out))) : w.heap.size ≤ gb287)); clear HB; have HB := n0_; have BK287 := n1_; have GW287 := n2_; have GE287 := n3_; clear n0_ n1_ n2_ n3_; clear hb hbox hg; have hcz4_0 : w3.cell? ⟨gb287, 0, none⟩ = some (.slice A0_0 l0_0.length c0_0) := (blk_cell BK287.out 0).trans rfl; have hfz4_0 := blk_frozen BK287.out 0))
    go_ret
    exact ⟨by first | rfl | (simp [errW_none, errW_some] <;> rfl) | (simp [*, errW_none, errW_some] <;> rfl), by repeat (first | (with_reducible first | exact HB.out | apply below_alloc | apply pw_below_drewN | apply below_drew1 | refine below_set ?_ GE287.out) | exact HB.out)⟩
  · rw [if_neg c2] at H
    have c2b0 : ((l0_0.length : Int) == 0) = false := beq_eq_false_iff_ne.mpr c2
    have c2b1 : ((l0_0.length : Int) != 0) = true := bne_iff_ne.mpr c2
    have c2b2 : ¬ (l0_0 = []) := fun h_ => c2 (by rw [h_]; rfl)
    by_cases c5 : 0 < (l0_0.length : Int)
    · rw [if_pos c5] at H
      have c5b0 : decide (0 < (l0_0.length : Int)) = true := decide_eq_true c5
      have c5b1 : decide (0 < l0_0.length) = true := decide_eq_true (by omega)
      clear c5
      obtain rfl := Option.some.inj H
      go_enter Try.func120, Try.ntmps120
      go_wp2_with (first | ((with_reducible refine gate_dst (N := 1) rfl ?_); refine box_event ?hg (N := 1) ?hd (cs := #[.slice A0_0 l0_0.length c0_0]) (t := 109) ?hr ?_; (case hd => rfl); (case hg => rfl); (case hr => first | (go_simp; done) | (go_simp; rfl)); intro gb287 hg w6 hbox hb; have n0_ := Aside0.mk (below_step (by repeat (first | (with_reducible first | exact HB.out | apply below_alloc | apply pw_below_drewN | apply below_drew1) | exact HB.out)) hb); have n1_ := Aside0.mk (hbox); have n2_ := Aside0.mk ((by rw [hg]; exact (below_size (by repeat (first | (with_reducible first | exact HB.out | apply below_alloc | apply pw_below_drewN | apply below_drew1) | exact HB.out))) : w.heap.size ≤ gb287)); have n3_ := Aside0.mk ((by rw [hg]; exact (below_size (by repeat (first | (with_reducible first | exact HB.out | apply below_alloc | apply pw_below_drewN | apply below_drew1) | exact HB.out))) : w.heap.size ≤ gb287)); clear HB; have HB := n0_; have BK287 := n1_; have GW287 := n2_; have GE287 := n3_; clear n0_ n1_ n2_ n3_; clear hb hbox hg; have hcz7_0 : w6.cell? ⟨gb287, 0, none⟩ = some (.slice A0_0 l0_0.length c0_0) := (blk_cell BK287.out 0).trans rfl; have hfz7_0 := blk_frozen BK287.out 0; have p288 : 0 ≤ (0 : Int) := (by omega); have q288 : 0 < (l0_0.length : Int) := of_decide_eq_true (by first | (with_reducible assumption) | assumption); obtain ⟨ad288, e288, hx288_0⟩ := Kd.at_string HR0_0.out 0 p288 q288; cases e288; have qi288 : (0 < l0_0.length) = True := eq_true (by omega); (try rw [show ((0 : Int)).toNat = 0 from rfl] at hx288_0); (try rw [Addr.add_zero'] at hx288_0); replace hx288_0 := (HB.out.cell (World.block_lt_of_cell? w _ hx288_0)).trans hx288_0; replace p288 := eq_true p288; replace q288 := eq_true q288))
      go_ret
      exact ⟨by first | rfl | (simp [errW_none, errW_some] <;> rfl) | (simp [*, errW_none, errW_some] <;> rfl), by repeat (first | (with_reducible first | exact HB.out | apply below_alloc | apply pw_below_drewN | apply below_drew1 | refine below_set ?_ GE287.out) | exact HB.out)⟩
    · rw [if_neg c5] at H
      exact absurd H (by simp)
end Go.Proofs.Ytlgnfbgjdkbfoaa.XH
namespace Go.Proofs.Ytlgnfbgjdkbfoaa.XH
open Go.RowKit Go.Proofs.YtlgnfbgjdkbfoaaW.PrintWords Go.Proofs.YtlgnfbgjdkbfoaaW.PrintLast Go.Proofs.YtlgnfbgjdkbfoaaW.PrintMore
attribute [local go_sem] max2_int min2_int max_two min_two max_three min_three max_four min_four   -- for this text's walks alone
set_option linter.unusedVariables false
set_option linter.unusedSimpArgs false
theorem eqA55 (d : Nat) (w : World) (x0 y0 : ByteArray) (x1 y1 : ByteArray) :
    (Op.equalIn (d + 2) 55 (.agg #[.string x0, .string x1]) (.agg #[.string y0, .string y1])).run Try.prog w = .ok (x0.toList == y0.toList && (x1.toList == y1.toList)) w := by
  refine eqA_of Try.underlying55 (by kernel_rfl) ?_
  refine eqf_cons (by rfl) (by go_simp; rfl) (by go_simp; rfl) (by go_simp) ?_
  exact eqf_last (by rfl) (by go_simp; rfl) (by go_simp; rfl) (by go_simp)
end Go.Proofs.Ytlgnfbgjdkbfoaa.XH
namespace Go.Proofs.Ytlgnfbgjdkbfoaa.XH
open Go.RowKit Go.Proofs.YtlgnfbgjdkbfoaaW.PrintWords Go.Proofs.YtlgnfbgjdkbfoaaW.PrintLast Go.Proofs.YtlgnfbgjdkbfoaaW.PrintMore
attribute [local go_sem] max2_int min2_int max_two min_two max_three min_three max_four min_four   -- for this text's walks alone
set_option linter.unusedVariables false
set_option linter.unusedSimpArgs false
theorem eqA63 (d : Nat) (w : World) (x0 y0 : Int) (x1 y1 : Int) (x2 y2 : Int) (x3 y3 : Int) (x4 y4 : Int) (x5 y5 : Int) (x6 y6 : Int) (x7 y7 : Int) (x8 y8 : Int) (x9 y9 : Int) (x10 y10 : Int) (x11 y11 : Int) (x12 y12 : Int) (x13 y13 : Int) (x14 y14 : Int) (x15 y15 : Int) (x16 y16 : Int) (x17 y17 : Int) (x18 y18 : Int) (x19 y19 : Int) (x20 y20 : Int) (x21 y21 : Int) (x22 y22 : Int) (x23 y23 : Int) (x24 y24 : Int) (x25 y25 : Int) (x26 y26 : Int) (x27 y27 : Int) (x28 y28 : Int) (x29 y29 : Int) (x30 y30 : Int) (x31 y31 : Int) :
    (Op.equalIn (d + 2) 63 (.agg (.int .u8 x0 :: .int .u8 x1 :: .int .u8 x2 :: .int .u8 x3 :: .int .u8 x4 :: .int .u8 x5 :: .int .u8 x6 :: .int .u8 x7 :: .int .u8 x8 :: .int .u8 x9 :: .int .u8 x10 :: .int .u8 x11 :: .int .u8 x12 :: .int .u8 x13 :: .int .u8 x14 :: .int .u8 x15 :: .int .u8 x16 :: .int .u8 x17 :: .int .u8 x18 :: .int .u8 x19 :: .int .u8 x20 :: .int .u8 x21 :: .int .u8 x22 :: .int .u8 x23 :: .int .u8 x24 :: .int .u8 x25 :: .int .u8 x26 :: .int .u8 x27 :: .int .u8 x28 :: .int .u8 x29 :: .int .u8 x30 :: .int .u8 x31 :: []).toArray) (.agg (.int .u8 y0 :: .int .u8 y1 :: .int .u8 y2 :: .int .u8 y3 :: .int .u8 y4 :: .int .u8 y5 :: .int .u8 y6 :: .int .u8 y7 :: .int .u8 y8 :: .int .u8 y9 :: .int .u8 y10 :: .int .u8 y11 :: .int .u8 y12 :: .int .u8 y13 :: .int .u8 y14 :: .int .u8 y15 :: .int .u8 y16 :: .int .u8 y17 :: .int .u8 y18 :: .int .u8 y19 :: .int .u8 y20 :: .int .u8 y21 :: .int .u8 y22 :: .int .u8 y23 :: .int .u8 y24 :: .int .u8 y25 :: .int .u8 y26 :: .int .u8 y27 :: .int .u8 y28 :: .int .u8 y29 :: .int .u8 y30 :: .int .u8 y31 :: []).toArray)).run Try.prog w = .ok (x0 == y0 && (x1 == y1 && (x2 == y2 && (x3 == y3 && (x4 == y4 && (x5 == y5 && (x6 == y6 && (x7 == y7 && (x8 == y8 && (x9 == y9 && (x10 == y10 && (x11 == y11 && (x12 == y12 && (x13 == y13 && (x14 == y14 && (x15 == y15 && (x16 == y16 && (x17 == y17 && (x18 == y18 && (x19 == y19 && (x20 == y20 && (x21 == y21 && (x22 == y22 && (x23 == y23 && (x24 == y24 && (x25 == y25 && (x26 == y26 && (x27 == y27 && (x28 == y28 && (x29 == y29 && (x30 == y30 && (x31 == y31)))))))))))))))))))))))))))))))) w := by
  refine Go.Proofs.YtlgnfbgjdkbfoaaXa.eqB_of Try.underlying63 (n := 32) (e := 5) (c := 1) (by kernel_rfl) (by kernel_rfl) (is := (0 :: 1 :: 2 :: 3 :: 4 :: 5 :: 6 :: 7 :: 8 :: 9 :: 10 :: 11 :: 12 :: 13 :: 14 :: 15 :: 16 :: 17 :: 18 :: 19 :: 20 :: 21 :: 22 :: 23 :: 24 :: 25 :: 26 :: 27 :: 28 :: 29 :: 30 :: 31 :: [])) (by decide) ?_
  refine Go.Proofs.YtlgnfbgjdkbfoaaXa.eqi_cons (by go_simp; rfl) (by go_simp; rfl) (by go_simp) ?_
  refine Go.Proofs.YtlgnfbgjdkbfoaaXa.eqi_cons (by go_simp; rfl) (by go_simp; rfl) (by go_simp) ?_
  refine Go.Proofs.YtlgnfbgjdkbfoaaXa.eqi_cons (by go_simp; rfl) (by go_simp; rfl) (by go_simp) ?_
  refine Go.Proofs.YtlgnfbgjdkbfoaaXa.eqi_cons (by go_simp; rfl) (by go_simp; rfl) (by go_simp) ?_
  refine Go.Proofs.YtlgnfbgjdkbfoaaXa.eqi_cons (by go_simp; rfl) (by go_simp; rfl) (by go_simp) ?_
  refine Go.Proofs.YtlgnfbgjdkbfoaaXa.eqi_cons (by go_simp; rfl) (by go_simp; rfl) (by go_simp) ?_
  refine Go.Proofs.YtlgnfbgjdkbfoaaXa.eqi_cons (by go_simp; rfl) (by go_simp; rfl) (by go_simp) ?_
  refine Go.Proofs.YtlgnfbgjdkbfoaaXa.eqi_cons (by go_simp; rfl) (by go_simp; rfl) (by go_simp) ?_
  refine Go.Proofs.YtlgnfbgjdkbfoaaXa.eqi_cons (by go_simp; rfl) (by go_simp; rfl) (by go_simp) ?_
  refine Go.Proofs.YtlgnfbgjdkbfoaaXa.eqi_cons (by go_simp; rfl) (by go_simp; rfl) (by go_simp) ?_
  refine Go.Proofs.YtlgnfbgjdkbfoaaXa.eqi_cons (by go_simp; rfl) (by go_simp; rfl) (by go_simp) ?_
  refine Go.Proofs.YtlgnfbgjdkbfoaaXa.eqi_cons (by go_simp; rfl) (by go_simp; rfl) (by go_simp) ?_
  refine Go.Proofs.YtlgnfbgjdkbfoaaXa.eqi_cons (by go_simp; rfl) (by go_simp; rfl) (by go_simp) ?_
  refine Go.Proofs.YtlgnfbgjdkbfoaaXa.eqi_cons (by go_simp; rfl) (by go_simp; rfl) (by go_simp) ?_
  refine Go.Proofs.YtlgnfbgjdkbfoaaXa.eqi_cons (by go_simp; rfl) (by go_simp; rfl) (by go_simp) ?_
  refine Go.Proofs.YtlgnfbgjdkbfoaaXa.eqi_cons (by go_simp; rfl) (by go_simp; rfl) (by go_simp) ?_
  refine Go.Proofs.YtlgnfbgjdkbfoaaXa.eqi_cons (by go_simp; rfl) (by go_simp; rfl) (by go_simp) ?_
  refine Go.Proofs.YtlgnfbgjdkbfoaaXa.eqi_cons (by go_simp; rfl) (by go_simp; rfl) (by go_simp) ?_
  refine Go.Proofs.YtlgnfbgjdkbfoaaXa.eqi_cons (by go_simp; rfl) (by go_simp; rfl) (by go_simp) ?_
  refine Go.Proofs.YtlgnfbgjdkbfoaaXa.eqi_cons (by go_simp; rfl) (by go_simp; rfl) (by go_simp) ?_
  refine Go.Proofs.YtlgnfbgjdkbfoaaXa.eqi_cons (by go_simp; rfl) (by go_simp; rfl) (by go_simp) ?_
  refine Go.Proofs.YtlgnfbgjdkbfoaaXa.eqi_cons (by go_simp; rfl) (by go_simp; rfl) (by go_simp) ?_
  refine Go.Proofs.YtlgnfbgjdkbfoaaXa.eqi_cons (by go_simp; rfl) (by go_simp; rfl) (by go_simp) ?_
  refine Go.Proofs.YtlgnfbgjdkbfoaaXa.eqi_cons (by go_simp; rfl) (by go_simp; rfl) (by go_simp) ?_
  refine Go.Proofs.YtlgnfbgjdkbfoaaXa.eqi_cons (by go_simp; rfl) (by go_simp; rfl) (by go_simp) ?_
  refine Go.Proofs.YtlgnfbgjdkbfoaaXa.eqi_cons (by go_simp; rfl) (by go_simp; rfl) (by go_simp) ?_
  refine Go.Proofs.YtlgnfbgjdkbfoaaXa.eqi_cons (by go_simp; rfl) (by go_simp; rfl) (by go_simp) ?_
  refine Go.Proofs.YtlgnfbgjdkbfoaaXa.eqi_cons (by go_simp; rfl) (by go_simp; rfl) (by go_simp) ?_
  refine Go.Proofs.YtlgnfbgjdkbfoaaXa.eqi_cons (by go_simp; rfl) (by go_simp; rfl) (by go_simp) ?_
  refine Go.Proofs.YtlgnfbgjdkbfoaaXa.eqi_cons (by go_simp; rfl) (by go_simp; rfl) (by go_simp) ?_
  refine Go.Proofs.YtlgnfbgjdkbfoaaXa.eqi_cons (by go_simp; rfl) (by go_simp; rfl) (by go_simp) ?_
  exact Go.Proofs.YtlgnfbgjdkbfoaaXa.eqi_last (by go_simp; rfl) (by go_simp; rfl) (by go_simp)
theorem eqA66 (d : Nat) (w : World) (x0 y0 : ByteArray) (x1 y1 : Int) (x2 y2 : Int) (x3 y3 : Int) (x4 y4 : Int) (x5 y5 : Int) (x6 y6 : Int) (x7 y7 : Int) (x8 y8 : Int) (x9 y9 : Int) (x10 y10 : Int) (x11 y11 : Int) (x12 y12 : Int) (x13 y13 : Int) (x14 y14 : Int) (x15 y15 : Int) (x16 y16 : Int) (x17 y17 : Int) (x18 y18 : Int) (x19 y19 : Int) (x20 y20 : Int) (x21 y21 : Int) (x22 y22 : Int) (x23 y23 : Int) (x24 y24 : Int) (x25 y25 : Int) (x26 y26 : Int) (x27 y27 : Int) (x28 y28 : Int) (x29 y29 : Int) (x30 y30 : Int) (x31 y31 : Int) (x32 y32 : Int) (x33 y33 : Int) :
    (Op.equalIn (d + 3) 66 (.agg (.string x0 :: .int .u8 x1 :: .int .u8 x2 :: .int .u8 x3 :: .int .u8 x4 :: .int .u8 x5 :: .int .u8 x6 :: .int .u8 x7 :: .int .u8 x8 :: .int .u8 x9 :: .int .u8 x10 :: .int .u8 x11 :: .int .u8 x12 :: .int .u8 x13 :: .int .u8 x14 :: .int .u8 x15 :: .int .u8 x16 :: .int .u8 x17 :: .int .u8 x18 :: .int .u8 x19 :: .int .u8 x20 :: .int .u8 x21 :: .int .u8 x22 :: .int .u8 x23 :: .int .u8 x24 :: .int .u8 x25 :: .int .u8 x26 :: .int .u8 x27 :: .int .u8 x28 :: .int .u8 x29 :: .int .u8 x30 :: .int .u8 x31 :: .int .u8 x32 :: .int .i64 x33 :: []).toArray) (.agg (.string y0 :: .int .u8 y1 :: .int .u8 y2 :: .int .u8 y3 :: .int .u8 y4 :: .int .u8 y5 :: .int .u8 y6 :: .int .u8 y7 :: .int .u8 y8 :: .int .u8 y9 :: .int .u8 y10 :: .int .u8 y11 :: .int .u8 y12 :: .int .u8 y13 :: .int .u8 y14 :: .int .u8 y15 :: .int .u8 y16 :: .int .u8 y17 :: .int .u8 y18 :: .int .u8 y19 :: .int .u8 y20 :: .int .u8 y21 :: .int .u8 y22 :: .int .u8 y23 :: .int .u8 y24 :: .int .u8 y25 :: .int .u8 y26 :: .int .u8 y27 :: .int .u8 y28 :: .int .u8 y29 :: .int .u8 y30 :: .int .u8 y31 :: .int .u8 y32 :: .int .i64 y33 :: []).toArray)).run Try.prog w = .ok (x0.toList == y0.toList && ((x1 == y1 && (x2 == y2 && (x3 == y3 && (x4 == y4 && (x5 == y5 && (x6 == y6 && (x7 == y7 && (x8 == y8 && (x9 == y9 && (x10 == y10 && (x11 == y11 && (x12 == y12 && (x13 == y13 && (x14 == y14 && (x15 == y15 && (x16 == y16 && (x17 == y17 && (x18 == y18 && (x19 == y19 && (x20 == y20 && (x21 == y21 && (x22 == y22 && (x23 == y23 && (x24 == y24 && (x25 == y25 && (x26 == y26 && (x27 == y27 && (x28 == y28 && (x29 == y29 && (x30 == y30 && (x31 == y31 && (x32 == y32)))))))))))))))))))))))))))))))) && (x33 == y33))) w := by
  refine eqA_of Try.underlying66 (by kernel_rfl) ?_
  refine eqf_cons (by rfl) (by go_simp; rfl) (by go_simp; rfl) (by go_simp) ?_
  refine eqf_cons (by rfl) (by go_simp) (by go_simp) (eqA63 (d + 0) w _ _ _ _ _ _ _ _ _ _ _ _ _ _ _ _ _ _ _ _ _ _ _ _ _ _ _ _ _ _ _ _ _ _ _ _ _ _ _ _ _ _ _ _ _ _ _ _ _ _ _ _ _ _ _ _ _ _ _ _ _ _ _ _) ?_
  exact eqf_last (by rfl) (by go_simp; rfl) (by go_simp; rfl) (by go_simp)
end Go.Proofs.Ytlgnfbgjdkbfoaa.XH
namespace Go.Proofs.Ytlgnfbgjdkbfoaa.XH
open Go.RowKit Go.Proofs.YtlgnfbgjdkbfoaaW.PrintWords Go.Proofs.YtlgnfbgjdkbfoaaW.PrintLast Go.Proofs.YtlgnfbgjdkbfoaaW.PrintMore
attribute [local go_sem] max2_int min2_int max_two min_two max_three min_three max_four min_four   -- for this text's walks alone
set_option linter.unusedVariables false
set_option linter.unusedSimpArgs false

-- NOT PRINTED: function 9 (retconkit_LentBytes)
/-- a whole load: opaque for the walks; its facts lie in the context -/
noncomputable def LD63 (v : Value) : Sem Value := Instr.loadAt 63 v
theorem LD63.of {W : World} {p : Addr} (cs : List Value) (h : Go.Proofs.YtlgnfbgjdkbfoaaXa.Cells W p 0 cs) (hl : cs.length = 32) : (LD63 (.pointer (some p))).run Try.prog W = .ok (.agg cs.toArray) W :=
  Go.Proofs.YtlgnfbgjdkbfoaaXa.ldrow (fun j v hv => Go.Proofs.YtlgnfbgjdkbfoaaXa.all_cells W p cs h j v hv) Try.underlying63 (by rfl) (by rw [show (Try.prog.info? 63).map (·.size) = some 32 by kernel_rfl, hl])
theorem LD63.new {W : World} {c0 c1 c2 c3 c4 c5 c6 c7 c8 c9 c10 c11 c12 c13 c14 c15 c16 c17 c18 c19 c20 c21 c22 c23 c24 c25 c26 c27 c28 c29 c30 c31 : Value} : (LD63 (.pointer (some ⟨W.heap.size, 0, none⟩))).run Try.prog (W.alloc (.cells (c0 :: c1 :: c2 :: c3 :: c4 :: c5 :: c6 :: c7 :: c8 :: c9 :: c10 :: c11 :: c12 :: c13 :: c14 :: c15 :: c16 :: c17 :: c18 :: c19 :: c20 :: c21 :: c22 :: c23 :: c24 :: c25 :: c26 :: c27 :: c28 :: c29 :: c30 :: c31 :: []).toArray 63)) = .ok (.agg (c0 :: c1 :: c2 :: c3 :: c4 :: c5 :: c6 :: c7 :: c8 :: c9 :: c10 :: c11 :: c12 :: c13 :: c14 :: c15 :: c16 :: c17 :: c18 :: c19 :: c20 :: c21 :: c22 :: c23 :: c24 :: c25 :: c26 :: c27 :: c28 :: c29 :: c30 :: c31 :: []).toArray) (W.alloc (.cells (c0 :: c1 :: c2 :: c3 :: c4 :: c5 :: c6 :: c7 :: c8 :: c9 :: c10 :: c11 :: c12 :: c13 :: c14 :: c15 :: c16 :: c17 :: c18 :: c19 :: c20 :: c21 :: c22 :: c23 :: c24 :: c25 :: c26 :: c27 :: c28 :: c29 :: c30 :: c31 :: []).toArray 63)) :=
  LD63.of (c0 :: c1 :: c2 :: c3 :: c4 :: c5 :: c6 :: c7 :: c8 :: c9 :: c10 :: c11 :: c12 :: c13 :: c14 :: c15 :: c16 :: c17 :: c18 :: c19 :: c20 :: c21 :: c22 :: c23 :: c24 :: c25 :: c26 :: c27 :: c28 :: c29 :: c30 :: c31 :: []) ⟨(by simp [Addr.add]), (by simp [Addr.add]), (by simp [Addr.add]), (by simp [Addr.add]), (by simp [Addr.add]), (by simp [Addr.add]), (by simp [Addr.add]), (by simp [Addr.add]), (by simp [Addr.add]), (by simp [Addr.add]), (by simp [Addr.add]), (by simp [Addr.add]), (by simp [Addr.add]), (by simp [Addr.add]), (by simp [Addr.add]), (by simp [Addr.add]), (by simp [Addr.add]), (by simp [Addr.add]), (by simp [Addr.add]), (by simp [Addr.add]), (by simp [Addr.add]), (by simp [Addr.add]), (by simp [Addr.add]), (by simp [Addr.add]), (by simp [Addr.add]), (by simp [Addr.add]), (by simp [Addr.add]), (by simp [Addr.add]), (by simp [Addr.add]), (by simp [Addr.add]), (by simp [Addr.add]), (by simp [Addr.add]), trivial⟩ rfl
/-- a whole load: opaque for the walks; its facts lie in the context -/
noncomputable def LD66 (v : Value) : Sem Value := Instr.loadAt 66 v
theorem ld66 (v : Value) : Instr.loadAt 66 v = LD66 v := rfl
theorem LD66.of {W : World} {p : Addr} (cs : List Value) (h : Go.Proofs.YtlgnfbgjdkbfoaaXa.Cells W p 0 cs) (hl : cs.length = 34) : (LD66 (.pointer (some p))).run Try.prog W = .ok (.agg cs.toArray) W :=
  Go.Proofs.YtlgnfbgjdkbfoaaXa.ldrow (fun j v hv => Go.Proofs.YtlgnfbgjdkbfoaaXa.all_cells W p cs h j v hv) Try.underlying66 (by rfl) (by rw [show (Try.prog.info? 66).map (·.size) = some 34 by kernel_rfl, hl])
theorem row66_mk {W : World} {p : Addr} {x : S66} (h0 : W.cell? p = some (.string x.f0)) (h1 : W.cell? ⟨p.block, p.off + 1, none⟩ = some (.int .u8 x.f1.f0)) (h2 : W.cell? ⟨p.block, p.off + 2, none⟩ = some (.int .u8 x.f1.f1)) (h3 : W.cell? ⟨p.block, p.off + 3, none⟩ = some (.int .u8 x.f1.f2)) (h4 : W.cell? ⟨p.block, p.off + 4, none⟩ = some (.int .u8 x.f1.f3)) (h5 : W.cell? ⟨p.block, p.off + 5, none⟩ = some (.int .u8 x.f1.f4)) (h6 : W.cell? ⟨p.block, p.off + 6, none⟩ = some (.int .u8 x.f1.f5)) (h7 : W.cell? ⟨p.block, p.off + 7, none⟩ = some (.int .u8 x.f1.f6)) (h8 : W.cell? ⟨p.block, p.off + 8, none⟩ = some (.int .u8 x.f1.f7)) (h9 : W.cell? ⟨p.block, p.off + 9, none⟩ = some (.int .u8 x.f1.f8)) (h10 : W.cell? ⟨p.block, p.off + 10, none⟩ = some (.int .u8 x.f1.f9)) (h11 : W.cell? ⟨p.block, p.off + 11, none⟩ = some (.int .u8 x.f1.f10)) (h12 : W.cell? ⟨p.block, p.off + 12, none⟩ = some (.int .u8 x.f1.f11)) (h13 : W.cell? ⟨p.block, p.off + 13, none⟩ = some (.int .u8 x.f1.f12)) (h14 : W.cell? ⟨p.block, p.off + 14, none⟩ = some (.int .u8 x.f1.f13)) (h15 : W.cell? ⟨p.block, p.off + 15, none⟩ = some (.int .u8 x.f1.f14)) (h16 : W.cell? ⟨p.block, p.off + 16, none⟩ = some (.int .u8 x.f1.f15)) (h17 : W.cell? ⟨p.block, p.off + 17, none⟩ = some (.int .u8 x.f1.f16)) (h18 : W.cell? ⟨p.block, p.off + 18, none⟩ = some (.int .u8 x.f1.f17)) (h19 : W.cell? ⟨p.block, p.off + 19, none⟩ = some (.int .u8 x.f1.f18)) (h20 : W.cell? ⟨p.block, p.off + 20, none⟩ = some (.int .u8 x.f1.f19)) (h21 : W.cell? ⟨p.block, p.off + 21, none⟩ = some (.int .u8 x.f1.f20)) (h22 : W.cell? ⟨p.block, p.off + 22, none⟩ = some (.int .u8 x.f1.f21)) (h23 : W.cell? ⟨p.block, p.off + 23, none⟩ = some (.int .u8 x.f1.f22)) (h24 : W.cell? ⟨p.block, p.off + 24, none⟩ = some (.int .u8 x.f1.f23)) (h25 : W.cell? ⟨p.block, p.off + 25, none⟩ = some (.int .u8 x.f1.f24)) (h26 : W.cell? ⟨p.block, p.off + 26, none⟩ = some (.int .u8 x.f1.f25)) (h27 : W.cell? ⟨p.block, p.off + 27, none⟩ = some (.int .u8 x.f1.f26)) (h28 : W.cell? ⟨p.block, p.off + 28, none⟩ = some (.int .u8 x.f1.f27)) (h29 : W.cell? ⟨p.block, p.off + 29, none⟩ = some (.int .u8 x.f1.f28)) (h30 : W.cell? ⟨p.block, p.off + 30, none⟩ = some (.int .u8 x.f1.f29)) (h31 : W.cell? ⟨p.block, p.off + 31, none⟩ = some (.int .u8 x.f1.f30)) (h32 : W.cell? ⟨p.block, p.off + 32, none⟩ = some (.int .u8 x.f1.f31)) (h33 : W.cell? ⟨p.block, p.off + 33, none⟩ = some (.int .i64 x.f2)) :
    (LD66 (.pointer (some p))).run Try.prog W = .ok (.agg (.string x.f0 :: .int .u8 x.f1.f0 :: .int .u8 x.f1.f1 :: .int .u8 x.f1.f2 :: .int .u8 x.f1.f3 :: .int .u8 x.f1.f4 :: .int .u8 x.f1.f5 :: .int .u8 x.f1.f6 :: .int .u8 x.f1.f7 :: .int .u8 x.f1.f8 :: .int .u8 x.f1.f9 :: .int .u8 x.f1.f10 :: .int .u8 x.f1.f11 :: .int .u8 x.f1.f12 :: .int .u8 x.f1.f13 :: .int .u8 x.f1.f14 :: .int .u8 x.f1.f15 :: .int .u8 x.f1.f16 :: .int .u8 x.f1.f17 :: .int .u8 x.f1.f18 :: .int .u8 x.f1.f19 :: .int .u8 x.f1.f20 :: .int .u8 x.f1.f21 :: .int .u8 x.f1.f22 :: .int .u8 x.f1.f23 :: .int .u8 x.f1.f24 :: .int .u8 x.f1.f25 :: .int .u8 x.f1.f26 :: .int .u8 x.f1.f27 :: .int .u8 x.f1.f28 :: .int .u8 x.f1.f29 :: .int .u8 x.f1.f30 :: .int .u8 x.f1.f31 :: .int .i64 x.f2 :: []).toArray) W ∧ ∀ n, (LD66 (.pointer (some p))).run Try.prog (W.drewN n) = .ok (.agg (.string x.f0 :: .int .u8 x.f1.f0 :: .int .u8 x.f1.f1 :: .int .u8 x.f1.f2 :: .int .u8 x.f1.f3 :: .int .u8 x.f1.f4 :: .int .u8 x.f1.f5 :: .int .u8 x.f1.f6 :: .int .u8 x.f1.f7 :: .int .u8 x.f1.f8 :: .int .u8 x.f1.f9 :: .int .u8 x.f1.f10 :: .int .u8 x.f1.f11 :: .int .u8 x.f1.f12 :: .int .u8 x.f1.f13 :: .int .u8 x.f1.f14 :: .int .u8 x.f1.f15 :: .int .u8 x.f1.f16 :: .int .u8 x.f1.f17 :: .int .u8 x.f1.f18 :: .int .u8 x.f1.f19 :: .int .u8 x.f1.f20 :: .int .u8 x.f1.f21 :: .int .u8 x.f1.f22 :: .int .u8 x.f1.f23 :: .int .u8 x.f1.f24 :: .int .u8 x.f1.f25 :: .int .u8 x.f1.f26 :: .int .u8 x.f1.f27 :: .int .u8 x.f1.f28 :: .int .u8 x.f1.f29 :: .int .u8 x.f1.f30 :: .int .u8 x.f1.f31 :: .int .i64 x.f2 :: []).toArray) (W.drewN n) :=
  ⟨LD66.of (.string x.f0 :: .int .u8 x.f1.f0 :: .int .u8 x.f1.f1 :: .int .u8 x.f1.f2 :: .int .u8 x.f1.f3 :: .int .u8 x.f1.f4 :: .int .u8 x.f1.f5 :: .int .u8 x.f1.f6 :: .int .u8 x.f1.f7 :: .int .u8 x.f1.f8 :: .int .u8 x.f1.f9 :: .int .u8 x.f1.f10 :: .int .u8 x.f1.f11 :: .int .u8 x.f1.f12 :: .int .u8 x.f1.f13 :: .int .u8 x.f1.f14 :: .int .u8 x.f1.f15 :: .int .u8 x.f1.f16 :: .int .u8 x.f1.f17 :: .int .u8 x.f1.f18 :: .int .u8 x.f1.f19 :: .int .u8 x.f1.f20 :: .int .u8 x.f1.f21 :: .int .u8 x.f1.f22 :: .int .u8 x.f1.f23 :: .int .u8 x.f1.f24 :: .int .u8 x.f1.f25 :: .int .u8 x.f1.f26 :: .int .u8 x.f1.f27 :: .int .u8 x.f1.f28 :: .int .u8 x.f1.f29 :: .int .u8 x.f1.f30 :: .int .u8 x.f1.f31 :: .int .i64 x.f2 :: []) ⟨h0, h1, h2, h3, h4, h5, h6, h7, h8, h9, h10, h11, h12, h13, h14, h15, h16, h17, h18, h19, h20, h21, h22, h23, h24, h25, h26, h27, h28, h29, h30, h31, h32, h33, trivial⟩ rfl, fun n => LD66.of (.string x.f0 :: .int .u8 x.f1.f0 :: .int .u8 x.f1.f1 :: .int .u8 x.f1.f2 :: .int .u8 x.f1.f3 :: .int .u8 x.f1.f4 :: .int .u8 x.f1.f5 :: .int .u8 x.f1.f6 :: .int .u8 x.f1.f7 :: .int .u8 x.f1.f8 :: .int .u8 x.f1.f9 :: .int .u8 x.f1.f10 :: .int .u8 x.f1.f11 :: .int .u8 x.f1.f12 :: .int .u8 x.f1.f13 :: .int .u8 x.f1.f14 :: .int .u8 x.f1.f15 :: .int .u8 x.f1.f16 :: .int .u8 x.f1.f17 :: .int .u8 x.f1.f18 :: .int .u8 x.f1.f19 :: .int .u8 x.f1.f20 :: .int .u8 x.f1.f21 :: .int .u8 x.f1.f22 :: .int .u8 x.f1.f23 :: .int .u8 x.f1.f24 :: .int .u8 x.f1.f25 :: .int .u8 x.f1.f26 :: .int .u8 x.f1.f27 :: .int .u8 x.f1.f28 :: .int .u8 x.f1.f29 :: .int .u8 x.f1.f30 :: .int .u8 x.f1.f31 :: .int .i64 x.f2 :: []) ⟨(World.cell?_drewN ..).trans h0, (World.cell?_drewN ..).trans h1, (World.cell?_drewN ..).trans h2, (World.cell?_drewN ..).trans h3, (World.cell?_drewN ..).trans h4, (World.cell?_drewN ..).trans h5, (World.cell?_drewN ..).trans h6, (World.cell?_drewN ..).trans h7, (World.cell?_drewN ..).trans h8, (World.cell?_drewN ..).trans h9, (World.cell?_drewN ..).trans h10, (World.cell?_drewN ..).trans h11, (World.cell?_drewN ..).trans h12, (World.cell?_drewN ..).trans h13, (World.cell?_drewN ..).trans h14, (World.cell?_drewN ..).trans h15, (World.cell?_drewN ..).trans h16, (World.cell?_drewN ..).trans h17, (World.cell?_drewN ..).trans h18, (World.cell?_drewN ..).trans h19, (World.cell?_drewN ..).trans h20, (World.cell?_drewN ..).trans h21, (World.cell?_drewN ..).trans h22, (World.cell?_drewN ..).trans h23, (World.cell?_drewN ..).trans h24, (World.cell?_drewN ..).trans h25, (World.cell?_drewN ..).trans h26, (World.cell?_drewN ..).trans h27, (World.cell?_drewN ..).trans h28, (World.cell?_drewN ..).trans h29, (World.cell?_drewN ..).trans h30, (World.cell?_drewN ..).trans h31, (World.cell?_drewN ..).trans h32, (World.cell?_drewN ..).trans h33, trivial⟩ rfl⟩
theorem LD66.new {W : World} {c0 c1 c2 c3 c4 c5 c6 c7 c8 c9 c10 c11 c12 c13 c14 c15 c16 c17 c18 c19 c20 c21 c22 c23 c24 c25 c26 c27 c28 c29 c30 c31 c32 c33 : Value} : (LD66 (.pointer (some ⟨W.heap.size, 0, none⟩))).run Try.prog (W.alloc (.cells (c0 :: c1 :: c2 :: c3 :: c4 :: c5 :: c6 :: c7 :: c8 :: c9 :: c10 :: c11 :: c12 :: c13 :: c14 :: c15 :: c16 :: c17 :: c18 :: c19 :: c20 :: c21 :: c22 :: c23 :: c24 :: c25 :: c26 :: c27 :: c28 :: c29 :: c30 :: c31 :: c32 :: c33 :: []).toArray 66)) = .ok (.agg (c0 :: c1 :: c2 :: c3 :: c4 :: c5 :: c6 :: c7 :: c8 :: c9 :: c10 :: c11 :: c12 :: c13 :: c14 :: c15 :: c16 :: c17 :: c18 :: c19 :: c20 :: c21 :: c22 :: c23 :: c24 :: c25 :: c26 :: c27 :: c28 :: c29 :: c30 :: c31 :: c32 :: c33 :: []).toArray) (W.alloc (.cells (c0 :: c1 :: c2 :: c3 :: c4 :: c5 :: c6 :: c7 :: c8 :: c9 :: c10 :: c11 :: c12 :: c13 :: c14 :: c15 :: c16 :: c17 :: c18 :: c19 :: c20 :: c21 :: c22 :: c23 :: c24 :: c25 :: c26 :: c27 :: c28 :: c29 :: c30 :: c31 :: c32 :: c33 :: []).toArray 66)) :=
  LD66.of (c0 :: c1 :: c2 :: c3 :: c4 :: c5 :: c6 :: c7 :: c8 :: c9 :: c10 :: c11 :: c12 :: c13 :: c14 :: c15 :: c16 :: c17 :: c18 :: c19 :: c20 :: c21 :: c22 :: c23 :: c24 :: c25 :: c26 :: c27 :: c28 :: c29 :: c30 :: c31 :: c32 :: c33 :: []) ⟨(by simp [Addr.add]), (by simp [Addr.add]), (by simp [Addr.add]), (by simp [Addr.add]), (by simp [Addr.add]), (by simp [Addr.add]), (by simp [Addr.add]), (by simp [Addr.add]), (by simp [Addr.add]), (by simp [Addr.add]), (by simp [Addr.add]), (by simp [Addr.add]), (by simp [Addr.add]), (by simp [Addr.add]), (by simp [Addr.add]), (by simp [Addr.add]), (by simp [Addr.add]), (by simp [Addr.add]), (by simp [Addr.add]), (by simp [Addr.add]), (by simp [Addr.add]), (by simp [Addr.add]), (by simp [Addr.add]), (by simp [Addr.add]), (by simp [Addr.add]), (by simp [Addr.add]), (by simp [Addr.add]), (by simp [Addr.add]), (by simp [Addr.add]), (by simp [Addr.add]), (by simp [Addr.add]), (by simp [Addr.add]), (by simp [Addr.add]), (by simp [Addr.add]), trivial⟩ rfl
end Go.Proofs.Ytlgnfbgjdkbfoaa.XH
namespace Go.Proofs.Ytlgnfbgjdkbfoaa.XH
open Go.RowKit Go.Proofs.YtlgnfbgjdkbfoaaW.PrintWords Go.Proofs.YtlgnfbgjdkbfoaaW.PrintLast Go.Proofs.YtlgnfbgjdkbfoaaW.PrintMore
attribute [local go_sem] max2_int min2_int max_two min_two max_three min_three max_four min_four   -- for this text's walks alone
set_option linter.unusedVariables false
set_option linter.unusedSimpArgs false
attribute [local go_sem high] eqA55 eqA66
-- NOT PRINTED: function 76 (retconref17_links)

-- NOT PRINTED: function 43 (retconref17_Check)

-- NOT PRINTED: function 11 (retconref17_Read)
attribute [local go_sem ↓ high] ld66
attribute [local go_sem high] LD66.new
def retconkit_SamePairs.l0 : Nat → List (S55) → List (S55) → Int → Option (Bool)
  | 0, _, _, _ => none
  | k + 1, x0, x1, x5 => if x5 < (x0.length : Int) then (if 0 ≤ x5 then (if x5 < (x1.length : Int) then (if (!((((rd_T55 x0 x5).f0).toList) == (((rd_T55 x1 x5).f0).toList)) || (!((((rd_T55 x0 x5).f1).toList) == (((rd_T55 x1 x5).f1).toList)))) = true then (some false) else (retconkit_SamePairs.l0 k x0 x1 (wrap64 (x5 + 1)))) else (none)) else (none)) else (some true)
def retconkit_SamePairs.f (k : Nat) (l0 : List (S55)) (l1 : List (S55)) : Option (Bool) := if (l0.length : Int) = (l1.length : Int) then (retconkit_SamePairs.l0 k l0 l1 0) else (some false)
theorem retconkit_SamePairs.mono_l : ∀ k, (∀ y0 y1 y2, LeO (retconkit_SamePairs.l0 k y0 y1 y2) (retconkit_SamePairs.l0 (k + 1) y0 y1 y2))
  | 0 => fun _ _ _ r h => by simp [retconkit_SamePairs.l0] at h
  | k + 1 => by
    have ih0 := retconkit_SamePairs.mono_l k
    · intro y0 y1 y2
      unfold retconkit_SamePairs.l0
      repeat' first
      | (with_reducible exact ih0 _ _ _)
      | (with_reducible exact LeO.refl _)
      | (with_reducible exact LeO.none _)
      | (with_reducible refine LeO.ite ?_ ?_)
      | (with_reducible refine LeO.bind ?_ (fun _ => ?_))
      | exact ih0 _ _ _
      | exact LeO.none _
      | refine LeO.ite ?_ ?_
      | refine LeO.bind ?_ (fun _ => ?_)
theorem retconkit_SamePairs.mono : ∀ a0 a1 k, LeO (retconkit_SamePairs.f k a0 a1) (retconkit_SamePairs.f (k + 1) a0 a1) := by
  intro a0 a1 k
  have ih0 := retconkit_SamePairs.mono_l k
  unfold retconkit_SamePairs.f
  repeat' first
      | (with_reducible exact ih0 _ _ _)
      | (with_reducible exact LeO.refl _)
      | (with_reducible exact LeO.none _)
      | (with_reducible refine LeO.ite ?_ ?_)
      | (with_reducible refine LeO.bind ?_ (fun _ => ?_))
      | exact ih0 _ _ _
      | exact LeO.none _
      | refine LeO.ite ?_ ?_
      | refine LeO.bind ?_ (fun _ => ?_)
set_option maxHeartbeats 8000000 in
set_option maxRecDepth 100000 in
theorem retconkit_SamePairs.calls (k : Nat) (A0 : Option Addr) (c0 : Nat) (l0 : List (S55)) (A1 : Option Addr) (c1 : Nat) (l1 : List (S55)) (r : Bool) (w : World) (hr0 : Kd.C k55 w A0 l0.length l0) (hc0 : l0.length ≤ c0) (hr1 : Kd.C k55 w A1 l1.length l1) (hc1 : l1.length ≤ c1) (h : retconkit_SamePairs.f k l0 l1 = some r) :
    Calls Try.prog 44 #[.slice A0 l0.length c0, .slice A1 l1.length c1] w fun e w' => e = .returned (.bool r) ∧ Drawn0 w w' := by
  have hu55 := Try.underlying55
  have HR0 := Aside0.mk hr0
  have HC0 := Aside0.mk hc0
  clear hr0 hc0
  have HR1 := Aside0.mk hr1
  have HC1 := Aside0.mk hc1
  clear hr1 hc1
  have H : (if (l0.length : Int) = (l1.length : Int) then (retconkit_SamePairs.l0 k l0 l1 0) else (some false)) = some r := h
  clear h
  by_cases c3 : (l0.length : Int) = (l1.length : Int)
  · rw [if_pos c3] at H
    have c3b0 : ((l0.length : Int) == (l1.length : Int)) = true := beq_iff_eq.mpr c3
    have c3b1 : ((l0.length : Int) != (l1.length : Int)) = false := bne_eq_false_iff_eq.mpr c3
    have c3b2 : (l0.length == l1.length) = true := by first | simpa using c3 | (simp at c3 ⊢; omega)
    clear c3
    have H' := Aside0.mk H
    clear H
    go_enter Try.func44, Try.ntmps44
    go_wp2
    repeat (go_quiet (fail); try go_wp2)
    go_loopg [5] k (fun kq v5 w' => ∃ (x5_1 : Int), v5 = .int .i64 x5_1 ∧ Aside0 (retconkit_SamePairs.l0 kq l0 l1 x5_1 = some r) ∧ Aside0 (kq ≤ k) ∧ Drawn0 w w')
    case atStart => exact ⟨(0), (by first | rfl | (simp; done) | (simp [*]; done)), H', ⟨Nat.le_refl _⟩, by repeat (first | exact Drawn0.refl _ | apply Drawn0.step)⟩
    case round =>
      clear H'
      try clear c1
      try clear p2
      try clear c3
      try clear c3b0
      try clear c3b1
      try clear c3b2
      obtain ⟨x5_1, rfl, HA, HK1, ⟨m1, rfl⟩⟩ := hrel
      cases gk with
      | zero => exact absurd HA.out (by simp [retconkit_SamePairs.l0])
      | succ k1 =>
        have H := HA.out
        clear HA
        simp only [retconkit_SamePairs.l0] at H
        by_cases c4 : x5_1 < (l0.length : Int)
        · rw [if_pos c4] at H
          have c4b0 : decide (x5_1 < (l0.length : Int)) = true := decide_eq_true c4
          clear c4
          by_cases c5 : 0 ≤ x5_1
          · rw [if_pos c5] at H
            have c5b0 : decide (0 ≤ x5_1) = true := decide_eq_true c5
            clear c5
            by_cases c6 : x5_1 < (l1.length : Int)
            · rw [if_pos c6] at H
              have c6b0 : decide (x5_1 < (l1.length : Int)) = true := decide_eq_true c6
              clear c6
              by_cases c7 : (!((((rd_T55 l0 x5_1).f0).toList) == (((rd_T55 l1 x5_1).f0).toList)) || (!((((rd_T55 l0 x5_1).f1).toList) == (((rd_T55 l1 x5_1).f1).toList)))) = true
              · rw [if_pos c7] at H
                have c7b0 : (!((((rd_T55 l0 x5_1).f0).toList) == (((rd_T55 l1 x5_1).f0).toList)) || (!((((rd_T55 l0 x5_1).f1).toList) == (((rd_T55 l1 x5_1).f1).toList)))) = true := c7
                clear c7
                obtain rfl := Option.some.inj H
                have p146 : 0 ≤ (x5_1 : Int) := of_decide_eq_true (by first | (with_reducible assumption) | assumption)
                have q146 : x5_1 < (l0.length : Int) := of_decide_eq_true (by first | (with_reducible assumption) | assumption)
                obtain ⟨ad146, e146, hx146_0, hx146_1⟩ := at_T55 HR0.out x5_1 p146 q146
                cases e146
                replace p146 := eq_true p146
                replace q146 := eq_true q146
                have p147 : 0 ≤ (x5_1 : Int) := of_decide_eq_true (by first | (with_reducible assumption) | assumption)
                have q147 : x5_1 < (l1.length : Int) := of_decide_eq_true (by first | (with_reducible assumption) | assumption)
                obtain ⟨ad147, e147, hx147_0, hx147_1⟩ := at_T55 HR1.out x5_1 p147 q147
                cases e147
                replace p147 := eq_true p147
                replace q147 := eq_true q147
                go_wp2
                repeat (go_quiet (fail); try go_wp2)
                go_ret
                exact ⟨by first | rfl | (simp; done) | (simp [*]; done), by repeat (first | exact Drawn0.refl _ | apply Drawn0.step)⟩
              · rw [if_neg c7] at H
                have c7b0 : (!((((rd_T55 l0 x5_1).f0).toList) == (((rd_T55 l1 x5_1).f0).toList)) || (!((((rd_T55 l0 x5_1).f1).toList) == (((rd_T55 l1 x5_1).f1).toList)))) = false := by simpa using c7
                clear c7
                have H' := Aside0.mk H
                clear H
                have p146 : 0 ≤ (x5_1 : Int) := of_decide_eq_true (by first | (with_reducible assumption) | assumption)
                have q146 : x5_1 < (l0.length : Int) := of_decide_eq_true (by first | (with_reducible assumption) | assumption)
                obtain ⟨ad146, e146, hx146_0, hx146_1⟩ := at_T55 HR0.out x5_1 p146 q146
                cases e146
                replace p146 := eq_true p146
                replace q146 := eq_true q146
                have p147 : 0 ≤ (x5_1 : Int) := of_decide_eq_true (by first | (with_reducible assumption) | assumption)
                have q147 : x5_1 < (l1.length : Int) := of_decide_eq_true (by first | (with_reducible assumption) | assumption)
                obtain ⟨ad147, e147, hx147_0, hx147_1⟩ := at_T55 HR1.out x5_1 p147 q147
                cases e147
                replace p147 := eq_true p147
                replace q147 := eq_true q147
                go_wp2
                repeat (go_quiet (fail); try go_wp2)
                go_roundg k1
                case measure => have := HK1.out; omega
                case rel => exact ⟨(wrap64 (x5_1 + 1)), (by first | rfl | (simp; done) | (simp [*]; done)), H', ⟨by have := HK1.out; omega⟩, by repeat (first | exact Drawn0.refl _ | apply Drawn0.step)⟩
            · rw [if_neg c6] at H
              exact absurd H (by simp)
          · rw [if_neg c5] at H
            exact absurd H (by simp)
        · rw [if_neg c4] at H
          have c4b0 : decide (x5_1 < (l0.length : Int)) = false := decide_eq_false c4
          clear c4
          obtain rfl := Option.some.inj H
          go_wp2
          repeat (go_quiet (fail); try go_wp2)
          go_ret
          exact ⟨by first | rfl | (simp; done) | (simp [*]; done), by repeat (first | exact Drawn0.refl _ | apply Drawn0.step)⟩
  · rw [if_neg c3] at H
    have c3b0 : ((l0.length : Int) == (l1.length : Int)) = false := beq_eq_false_iff_ne.mpr c3
    have c3b1 : ((l0.length : Int) != (l1.length : Int)) = true := bne_iff_ne.mpr c3
    have c3b2 : (l0.length == l1.length) = false := by first | simpa using c3 | (simp at c3 ⊢; omega)
    obtain rfl := Option.some.inj H
    go_enter Try.func44, Try.ntmps44
    go_wp2
    repeat (go_quiet (fail); try go_wp2)
    go_ret
    exact ⟨by first | rfl | (simp; done) | (simp [*]; done), by repeat (first | exact Drawn0.refl _ | apply Drawn0.step)⟩
mutual
def retconkit_SamePage.j0 : Nat → Bool → Int → List (S55) → List (S66) → Int → List (S55) → List (S66) → Option (Bool)
  | 0, _, _, _, _, _, _, _ => none
  | k + 1, x27, x149000, x149001, x149002, x150000, x150001, x150002 => if x27 = true then (some false) else (retconkit_SamePage.l0 k 0 x149000 x149001 x149002 x150000 x150001 x150002)
def retconkit_SamePage.l0 : Nat → Int → Int → List (S55) → List (S66) → Int → List (S55) → List (S66) → Option (Bool)
  | 0, _, _, _, _, _, _, _ => none
  | k + 1, x5, x149000, x149001, x149002, x150000, x150001, x150002 => if x5 < (x149002.length : Int) then (if 0 ≤ x5 then (if x5 < (x150002.length : Int) then (if (!((((rd_T66 x149002 x5).f0).toList) == (((rd_T66 x150002 x5).f0).toList)) || ((!(((rd_T66 x149002 x5).f1.f0) == ((rd_T66 x150002 x5).f1.f0)) || (!(((rd_T66 x149002 x5).f1.f1) == ((rd_T66 x150002 x5).f1.f1)) || (!(((rd_T66 x149002 x5).f1.f2) == ((rd_T66 x150002 x5).f1.f2)) || (!(((rd_T66 x149002 x5).f1.f3) == ((rd_T66 x150002 x5).f1.f3)) || (!(((rd_T66 x149002 x5).f1.f4) == ((rd_T66 x150002 x5).f1.f4)) || (!(((rd_T66 x149002 x5).f1.f5) == ((rd_T66 x150002 x5).f1.f5)) || (!(((rd_T66 x149002 x5).f1.f6) == ((rd_T66 x150002 x5).f1.f6)) || (!(((rd_T66 x149002 x5).f1.f7) == ((rd_T66 x150002 x5).f1.f7)) || (!(((rd_T66 x149002 x5).f1.f8) == ((rd_T66 x150002 x5).f1.f8)) || (!(((rd_T66 x149002 x5).f1.f9) == ((rd_T66 x150002 x5).f1.f9)) || (!(((rd_T66 x149002 x5).f1.f10) == ((rd_T66 x150002 x5).f1.f10)) || (!(((rd_T66 x149002 x5).f1.f11) == ((rd_T66 x150002 x5).f1.f11)) || (!(((rd_T66 x149002 x5).f1.f12) == ((rd_T66 x150002 x5).f1.f12)) || (!(((rd_T66 x149002 x5).f1.f13) == ((rd_T66 x150002 x5).f1.f13)) || (!(((rd_T66 x149002 x5).f1.f14) == ((rd_T66 x150002 x5).f1.f14)) || (!(((rd_T66 x149002 x5).f1.f15) == ((rd_T66 x150002 x5).f1.f15)) || (!(((rd_T66 x149002 x5).f1.f16) == ((rd_T66 x150002 x5).f1.f16)) || (!(((rd_T66 x149002 x5).f1.f17) == ((rd_T66 x150002 x5).f1.f17)) || (!(((rd_T66 x149002 x5).f1.f18) == ((rd_T66 x150002 x5).f1.f18)) || (!(((rd_T66 x149002 x5).f1.f19) == ((rd_T66 x150002 x5).f1.f19)) || (!(((rd_T66 x149002 x5).f1.f20) == ((rd_T66 x150002 x5).f1.f20)) || (!(((rd_T66 x149002 x5).f1.f21) == ((rd_T66 x150002 x5).f1.f21)) || (!(((rd_T66 x149002 x5).f1.f22) == ((rd_T66 x150002 x5).f1.f22)) || (!(((rd_T66 x149002 x5).f1.f23) == ((rd_T66 x150002 x5).f1.f23)) || (!(((rd_T66 x149002 x5).f1.f24) == ((rd_T66 x150002 x5).f1.f24)) || (!(((rd_T66 x149002 x5).f1.f25) == ((rd_T66 x150002 x5).f1.f25)) || (!(((rd_T66 x149002 x5).f1.f26) == ((rd_T66 x150002 x5).f1.f26)) || (!(((rd_T66 x149002 x5).f1.f27) == ((rd_T66 x150002 x5).f1.f27)) || (!(((rd_T66 x149002 x5).f1.f28) == ((rd_T66 x150002 x5).f1.f28)) || (!(((rd_T66 x149002 x5).f1.f29) == ((rd_T66 x150002 x5).f1.f29)) || (!(((rd_T66 x149002 x5).f1.f30) == ((rd_T66 x150002 x5).f1.f30)) || (!(((rd_T66 x149002 x5).f1.f31) == ((rd_T66 x150002 x5).f1.f31)))))))))))))))))))))))))))))))))) || (!(((rd_T66 x149002 x5).f2) == ((rd_T66 x150002 x5).f2))))) = true then (some false) else (retconkit_SamePage.l0 k (wrap64 (x5 + 1)) x149000 x149001 x149002 x150000 x150001 x150002)) else (none)) else (none)) else (some true)
end
def retconkit_SamePage.f (k : Nat) (a0_0 : Int) (l0_1 : List (S55)) (l0_2 : List (S66)) (a1_0 : Int) (l1_1 : List (S55)) (l1_2 : List (S66)) : Option (Bool) := if a0_0 = a1_0 then ((retconkit_SamePairs.f k l0_1 l1_1).bind fun t150 => (if t150 = true then (retconkit_SamePage.j0 k ((l0_2.length : Int) != (l1_2.length : Int)) a0_0 l0_1 l0_2 a1_0 l1_1 l1_2) else (retconkit_SamePage.j0 k true a0_0 l0_1 l0_2 a1_0 l1_1 l1_2))) else (retconkit_SamePage.j0 k true a0_0 l0_1 l0_2 a1_0 l1_1 l1_2)
theorem retconkit_SamePage.mono_l : ∀ k, (∀ y0 y1 y2 y3 y4 y5 y6, LeO (retconkit_SamePage.j0 k y0 y1 y2 y3 y4 y5 y6) (retconkit_SamePage.j0 (k + 1) y0 y1 y2 y3 y4 y5 y6)) ∧ (∀ y0 y1 y2 y3 y4 y5 y6, LeO (retconkit_SamePage.l0 k y0 y1 y2 y3 y4 y5 y6) (retconkit_SamePage.l0 (k + 1) y0 y1 y2 y3 y4 y5 y6))
  | 0 => ⟨fun _ _ _ _ _ _ _ r h => by simp [retconkit_SamePage.j0] at h, fun _ _ _ _ _ _ _ r h => by simp [retconkit_SamePage.l0] at h⟩
  | k + 1 => by
    obtain ⟨ih0, ih1⟩ := retconkit_SamePage.mono_l k
    refine ⟨?_, ?_⟩
    · intro y0 y1 y2 y3 y4 y5 y6
      unfold retconkit_SamePage.j0
      repeat' first
      | (with_reducible exact ih0 _ _ _ _ _ _ _)
      | (with_reducible exact ih1 _ _ _ _ _ _ _)
      | (with_reducible exact retconkit_SamePairs.mono _ _ _)
      | (with_reducible exact LeO.refl _)
      | (with_reducible exact LeO.none _)
      | (with_reducible refine LeO.ite ?_ ?_)
      | (with_reducible refine LeO.bind ?_ (fun _ => ?_))
      | exact ih0 _ _ _ _ _ _ _
      | exact ih1 _ _ _ _ _ _ _
      | exact retconkit_SamePairs.mono _ _ _
      | exact LeO.none _
      | refine LeO.ite ?_ ?_
      | refine LeO.bind ?_ (fun _ => ?_)
    · intro y0 y1 y2 y3 y4 y5 y6
      unfold retconkit_SamePage.l0
      repeat' first
      | (with_reducible exact ih0 _ _ _ _ _ _ _)
      | (with_reducible exact ih1 _ _ _ _ _ _ _)
      | (with_reducible exact retconkit_SamePairs.mono _ _ _)
      | (with_reducible exact LeO.refl _)
      | (with_reducible exact LeO.none _)
      | (with_reducible refine LeO.ite ?_ ?_)
      | (with_reducible refine LeO.bind ?_ (fun _ => ?_))
      | exact ih0 _ _ _ _ _ _ _
      | exact ih1 _ _ _ _ _ _ _
      | exact retconkit_SamePairs.mono _ _ _
      | exact LeO.none _
      | refine LeO.ite ?_ ?_
      | refine LeO.bind ?_ (fun _ => ?_)
theorem retconkit_SamePage.mono : ∀ a0 a1 a2 a3 a4 a5 k, LeO (retconkit_SamePage.f k a0 a1 a2 a3 a4 a5) (retconkit_SamePage.f (k + 1) a0 a1 a2 a3 a4 a5) := by
  intro a0 a1 a2 a3 a4 a5 k
  obtain ⟨ih0, ih1⟩ := retconkit_SamePage.mono_l k
  unfold retconkit_SamePage.f
  repeat' first
      | (with_reducible exact ih0 _ _ _ _ _ _ _)
      | (with_reducible exact ih1 _ _ _ _ _ _ _)
      | (with_reducible exact retconkit_SamePairs.mono _ _ _)
      | (with_reducible exact LeO.refl _)
      | (with_reducible exact LeO.none _)
      | (with_reducible refine LeO.ite ?_ ?_)
      | (with_reducible refine LeO.bind ?_ (fun _ => ?_))
      | exact ih0 _ _ _ _ _ _ _
      | exact ih1 _ _ _ _ _ _ _
      | exact retconkit_SamePairs.mono _ _ _
      | exact LeO.none _
      | refine LeO.ite ?_ ?_
      | refine LeO.bind ?_ (fun _ => ?_)
set_option maxHeartbeats 8000000 in
set_option maxRecDepth 100000 in
theorem retconkit_SamePage.calls (k : Nat) (a0_0 : Int) (A0_1 : Option Addr) (c0_1 : Nat) (l0_1 : List (S55)) (A0_2 : Option Addr) (c0_2 : Nat) (l0_2 : List (S66)) (a1_0 : Int) (A1_1 : Option Addr) (c1_1 : Nat) (l1_1 : List (S55)) (A1_2 : Option Addr) (c1_2 : Nat) (l1_2 : List (S66)) (r : Bool) (w : World) (hr0_1 : Kd.C k55 w A0_1 l0_1.length l0_1) (hc0_1 : l0_1.length ≤ c0_1) (hr0_2 : Kd.C k66 w A0_2 l0_2.length l0_2) (hc0_2 : l0_2.length ≤ c0_2) (hr1_1 : Kd.C k55 w A1_1 l1_1.length l1_1) (hc1_1 : l1_1.length ≤ c1_1) (hr1_2 : Kd.C k66 w A1_2 l1_2.length l1_2) (hc1_2 : l1_2.length ≤ c1_2) (h : retconkit_SamePage.f k a0_0 l0_1 l0_2 a1_0 l1_1 l1_2 = some r) :
    Calls Try.prog 12 #[.agg #[.int .i64 a0_0, .slice A0_1 l0_1.length c0_1, .slice A0_2 l0_2.length c0_2], .agg #[.int .i64 a1_0, .slice A1_1 l1_1.length c1_1, .slice A1_2 l1_2.length c1_2]] w fun e w' => e = .returned (.bool r) ∧ Below w.heap.size w w' := by
  have hu27 := Try.underlying27
  have hu66 := Try.underlying66
  have HR0_1 := Aside0.mk hr0_1
  have HC0_1 := Aside0.mk hc0_1
  clear hr0_1 hc0_1
  have HR0_2 := Aside0.mk hr0_2
  have HC0_2 := Aside0.mk hc0_2
  clear hr0_2 hc0_2
  have HR1_1 := Aside0.mk hr1_1
  have HC1_1 := Aside0.mk hc1_1
  clear hr1_1 hc1_1
  have HR1_2 := Aside0.mk hr1_2
  have HC1_2 := Aside0.mk hc1_2
  clear hr1_2 hc1_2
  have HB := Aside0.mk (Below.refl w.heap.size w)
  have H : (if a0_0 = a1_0 then ((retconkit_SamePairs.f k l0_1 l1_1).bind fun t150 => (if t150 = true then (retconkit_SamePage.j0 k ((l0_2.length : Int) != (l1_2.length : Int)) a0_0 l0_1 l0_2 a1_0 l1_1 l1_2) else (retconkit_SamePage.j0 k true a0_0 l0_1 l0_2 a1_0 l1_1 l1_2))) else (retconkit_SamePage.j0 k true a0_0 l0_1 l0_2 a1_0 l1_1 l1_2)) = some r := h
  clear h
  have HC3 := Aside0.mk H
  clear H
  go_enter Try.func12, Try.ntmps12
  go_upto_region 1 with (first | ((with_reducible refine gate_dst (N := 2) rfl ?_); (try (refine gate_guard (by rfl) ?_; dsimp only)); refine box_event ?hg (N := 2) ?hd (cs := #[.int .i64 a0_0, .slice A0_1 l0_1.length c0_1, .slice A0_2 l0_2.length c0_2]) (t := 27) ?hr ?_; (case hd => rfl); (case hg => rfl); (case hr => first | (go_simp; done) | (go_simp; rfl)); intro gb148 hg w4 hbox hb; have n0_ := Aside0.mk (below_step (by repeat (first | (with_reducible first | exact HB.out | apply below_alloc | apply pw_below_drewN | apply below_drew1) | exact HB.out)) hb); have n1_ := Aside0.mk (hbox); have n2_ := Aside0.mk ((by rw [hg]; exact (below_size (by repeat (first | (with_reducible first | exact HB.out | apply below_alloc | apply pw_below_drewN | apply below_drew1) | exact HB.out))) : w.heap.size ≤ gb148)); have n3_ := Aside0.mk ((by rw [hg]; exact (below_size (by repeat (first | (with_reducible first | exact HB.out | apply below_alloc | apply pw_below_drewN | apply below_drew1) | exact HB.out))) : w.heap.size ≤ gb148)); clear HB; have HB := n0_; have BK148 := n1_; have GW148 := n2_; have GE148 := n3_; clear n0_ n1_ n2_ n3_; clear hb hbox hg) | ((with_reducible refine gate_dst (N := 3) rfl ?_); (try (refine gate_guard (by rfl) ?_; dsimp only)); refine box_event ?hg (N := 3) ?hd (cs := #[.int .i64 a1_0, .slice A1_1 l1_1.length c1_1, .slice A1_2 l1_2.length c1_2]) (t := 27) ?hr ?_; (case hd => rfl); (case hg => rfl); (case hr => first | (go_simp; done) | (go_simp; rfl)); intro gb149 hg w5 hbox hb; have n0_ := Aside0.mk (blk_below (g := gb148) (o := .cells #[.int .i64 a0_0, .slice A0_1 l0_1.length c0_1, .slice A0_2 l0_2.length c0_2] 27 (0, 0)) (by (with_reducible repeat (first | refine blk_drewN ?_ _ | refine blk_drew ?_ | refine blk_alloc ?_ _)); exact BK148.out) hb); have n1_ := Aside0.mk (below_step (by repeat (first | (with_reducible first | exact HB.out | apply below_alloc | apply pw_below_drewN | apply below_drew1 | refine below_set ?_ GE148.out) | exact HB.out)) hb); have n2_ := Aside0.mk (hbox); have n3_ := Aside0.mk ((by rw [hg]; exact (below_size (by repeat (first | (with_reducible first | exact HB.out | apply below_alloc | apply pw_below_drewN | apply below_drew1 | refine below_set ?_ GE148.out) | exact HB.out))) : w.heap.size ≤ gb149)); have n4_ := Aside0.mk ((by rw [hg]; exact (below_size (by repeat (first | (with_reducible first | exact HB.out | apply below_alloc | apply pw_below_drewN | apply below_drew1 | refine below_set ?_ GE148.out) | exact HB.out))) : w.heap.size ≤ gb149)); have n5_ := Aside0.mk ((by rw [hg]; exact Nat.ne_of_lt (blk_lt (g := gb148) (o := .cells #[.int .i64 a0_0, .slice A0_1 l0_1.length c0_1, .slice A0_2 l0_2.length c0_2] 27 (0, 0)) (by (with_reducible repeat (first | refine blk_drewN ?_ _ | refine blk_drew ?_ | refine blk_alloc ?_ _)); exact BK148.out)) : gb148 ≠ gb149)); have n6_ := Aside0.mk ((by rw [hg]; exact Nat.ne_of_gt (blk_lt (g := gb148) (o := .cells #[.int .i64 a0_0, .slice A0_1 l0_1.length c0_1, .slice A0_2 l0_2.length c0_2] 27 (0, 0)) (by (with_reducible repeat (first | refine blk_drewN ?_ _ | refine blk_drew ?_ | refine blk_alloc ?_ _)); exact BK148.out)) : gb149 ≠ gb148)); clear BK148; clear HB; have BK148 := n0_; have HB := n1_; have BK149 := n2_; have GW149 := n3_; have GE149 := n4_; have NB148_149 := n5_; have NB149_148 := n6_; clear n0_ n1_ n2_ n3_ n4_ n5_ n6_; clear hb hbox hg))
  repeat (go_quiet (first | ((with_reducible refine gate_dst (N := 2) rfl ?_); (try (refine gate_guard (by rfl) ?_; dsimp only)); refine box_event ?hg (N := 2) ?hd (cs := #[.int .i64 a0_0, .slice A0_1 l0_1.length c0_1, .slice A0_2 l0_2.length c0_2]) (t := 27) ?hr ?_; (case hd => rfl); (case hg => rfl); (case hr => first | (go_simp; done) | (go_simp; rfl)); intro gb148 hg w4 hbox hb; have n0_ := Aside0.mk (below_step (by repeat (first | (with_reducible first | exact HB.out | apply below_alloc | apply pw_below_drewN | apply below_drew1) | exact HB.out)) hb); have n1_ := Aside0.mk (hbox); have n2_ := Aside0.mk ((by rw [hg]; exact (below_size (by repeat (first | (with_reducible first | exact HB.out | apply below_alloc | apply pw_below_drewN | apply below_drew1) | exact HB.out))) : w.heap.size ≤ gb148)); have n3_ := Aside0.mk ((by rw [hg]; exact (below_size (by repeat (first | (with_reducible first | exact HB.out | apply below_alloc | apply pw_below_drewN | apply below_drew1) | exact HB.out))) : w.heap.size ≤ gb148)); clear HB; have HB := n0_; have BK148 := n1_; have GW148 := n2_; have GE148 := n3_; clear n0_ n1_ n2_ n3_; clear hb hbox hg) | ((with_reducible refine gate_dst (N := 3) rfl ?_); (try (refine gate_guard (by rfl) ?_; dsimp only)); refine box_event ?hg (N := 3) ?hd (cs := #[.int .i64 a1_0, .slice A1_1 l1_1.length c1_1, .slice A1_2 l1_2.length c1_2]) (t := 27) ?hr ?_; (case hd => rfl); (case hg => rfl); (case hr => first | (go_simp; done) | (go_simp; rfl)); intro gb149 hg w5 hbox hb; have n0_ := Aside0.mk (blk_below (g := gb148) (o := .cells #[.int .i64 a0_0, .slice A0_1 l0_1.length c0_1, .slice A0_2 l0_2.length c0_2] 27 (0, 0)) (by (with_reducible repeat (first | refine blk_drewN ?_ _ | refine blk_drew ?_ | refine blk_alloc ?_ _)); exact BK148.out) hb); have n1_ := Aside0.mk (below_step (by repeat (first | (with_reducible first | exact HB.out | apply below_alloc | apply pw_below_drewN | apply below_drew1 | refine below_set ?_ GE148.out) | exact HB.out)) hb); have n2_ := Aside0.mk (hbox); have n3_ := Aside0.mk ((by rw [hg]; exact (below_size (by repeat (first | (with_reducible first | exact HB.out | apply below_alloc | apply pw_below_drewN | apply below_drew1 | refine below_set ?_ GE148.out) | exact HB.out))) : w.heap.size ≤ gb149)); have n4_ := Aside0.mk ((by rw [hg]; exact (below_size (by repeat (first | (with_reducible first | exact HB.out | apply below_alloc | apply pw_below_drewN | apply below_drew1 | refine below_set ?_ GE148.out) | exact HB.out))) : w.heap.size ≤ gb149)); have n5_ := Aside0.mk ((by rw [hg]; exact Nat.ne_of_lt (blk_lt (g := gb148) (o := .cells #[.int .i64 a0_0, .slice A0_1 l0_1.length c0_1, .slice A0_2 l0_2.length c0_2] 27 (0, 0)) (by (with_reducible repeat (first | refine blk_drewN ?_ _ | refine blk_drew ?_ | refine blk_alloc ?_ _)); exact BK148.out)) : gb148 ≠ gb149)); have n6_ := Aside0.mk ((by rw [hg]; exact Nat.ne_of_gt (blk_lt (g := gb148) (o := .cells #[.int .i64 a0_0, .slice A0_1 l0_1.length c0_1, .slice A0_2 l0_2.length c0_2] 27 (0, 0)) (by (with_reducible repeat (first | refine blk_drewN ?_ _ | refine blk_drew ?_ | refine blk_alloc ?_ _)); exact BK148.out)) : gb149 ≠ gb148)); clear BK148; clear HB; have BK148 := n0_; have HB := n1_; have BK149 := n2_; have GW149 := n3_; have GE149 := n4_; have NB148_149 := n5_; have NB149_148 := n6_; clear n0_ n1_ n2_ n3_ n4_ n5_ n6_; clear hb hbox hg)); go_upto_region 1 with (first | ((with_reducible refine gate_dst (N := 2) rfl ?_); (try (refine gate_guard (by rfl) ?_; dsimp only)); refine box_event ?hg (N := 2) ?hd (cs := #[.int .i64 a0_0, .slice A0_1 l0_1.length c0_1, .slice A0_2 l0_2.length c0_2]) (t := 27) ?hr ?_; (case hd => rfl); (case hg => rfl); (case hr => first | (go_simp; done) | (go_simp; rfl)); intro gb148 hg w4 hbox hb; have n0_ := Aside0.mk (below_step (by repeat (first | (with_reducible first | exact HB.out | apply below_alloc | apply pw_below_drewN | apply below_drew1) | exact HB.out)) hb); have n1_ := Aside0.mk (hbox); have n2_ := Aside0.mk ((by rw [hg]; exact (below_size (by repeat (first | (with_reducible first | exact HB.out | apply below_alloc | apply pw_below_drewN | apply below_drew1) | exact HB.out))) : w.heap.size ≤ gb148)); have n3_ := Aside0.mk ((by rw [hg]; exact (below_size (by repeat (first | (with_reducible first | exact HB.out | apply below_alloc | apply pw_below_drewN | apply below_drew1) | exact HB.out))) : w.heap.size ≤ gb148)); clear HB; have HB := n0_; have BK148 := n1_; have GW148 := n2_; have GE148 := n3_; clear n0_ n1_ n2_ n3_; clear hb hbox hg) | ((with_reducible refine gate_dst (N := 3) rfl ?_); (try (refine gate_guard (by rfl) ?_; dsimp only)); refine box_event ?hg (N := 3) ?hd (cs := #[.int .i64 a1_0, .slice A1_1 l1_1.length c1_1, .slice A1_2 l1_2.length c1_2]) (t := 27) ?hr ?_; (case hd => rfl); (case hg => rfl); (case hr => first | (go_simp; done) | (go_simp; rfl)); intro gb149 hg w5 hbox hb; have n0_ := Aside0.mk (blk_below (g := gb148) (o := .cells #[.int .i64 a0_0, .slice A0_1 l0_1.length c0_1, .slice A0_2 l0_2.length c0_2] 27 (0, 0)) (by (with_reducible repeat (first | refine blk_drewN ?_ _ | refine blk_drew ?_ | refine blk_alloc ?_ _)); exact BK148.out) hb); have n1_ := Aside0.mk (below_step (by repeat (first | (with_reducible first | exact HB.out | apply below_alloc | apply pw_below_drewN | apply below_drew1 | refine below_set ?_ GE148.out) | exact HB.out)) hb); have n2_ := Aside0.mk (hbox); have n3_ := Aside0.mk ((by rw [hg]; exact (below_size (by repeat (first | (with_reducible first | exact HB.out | apply below_alloc | apply pw_below_drewN | apply below_drew1 | refine below_set ?_ GE148.out) | exact HB.out))) : w.heap.size ≤ gb149)); have n4_ := Aside0.mk ((by rw [hg]; exact (below_size (by repeat (first | (with_reducible first | exact HB.out | apply below_alloc | apply pw_below_drewN | apply below_drew1 | refine below_set ?_ GE148.out) | exact HB.out))) : w.heap.size ≤ gb149)); have n5_ := Aside0.mk ((by rw [hg]; exact Nat.ne_of_lt (blk_lt (g := gb148) (o := .cells #[.int .i64 a0_0, .slice A0_1 l0_1.length c0_1, .slice A0_2 l0_2.length c0_2] 27 (0, 0)) (by (with_reducible repeat (first | refine blk_drewN ?_ _ | refine blk_drew ?_ | refine blk_alloc ?_ _)); exact BK148.out)) : gb148 ≠ gb149)); have n6_ := Aside0.mk ((by rw [hg]; exact Nat.ne_of_gt (blk_lt (g := gb148) (o := .cells #[.int .i64 a0_0, .slice A0_1 l0_1.length c0_1, .slice A0_2 l0_2.length c0_2] 27 (0, 0)) (by (with_reducible repeat (first | refine blk_drewN ?_ _ | refine blk_drew ?_ | refine blk_alloc ?_ _)); exact BK148.out)) : gb149 ≠ gb148)); clear BK148; clear HB; have BK148 := n0_; have HB := n1_; have BK149 := n2_; have GW149 := n3_; have GE149 := n4_; have NB148_149 := n5_; have NB149_148 := n6_; clear n0_ n1_ n2_ n3_ n4_ n5_ n6_; clear hb hbox hg)))
  (try simp only [Act.put, List.setIfInBounds_toArray, List.set_cons_zero, List.set_cons_succ])
  go_cut [27] (fun v27 wc => ∃ (kq : Nat) (x27_2 : Bool), v27 = .bool x27_2 ∧ Aside0 (retconkit_SamePage.j0 kq x27_2 a0_0 l0_1 l0_2 a1_0 l1_1 l1_2 = some r) ∧ Aside0 (kq ≤ k) ∧ Aside0 (wc.heap[gb148]? = some (.cells #[.int .i64 a0_0, (.slice A0_1 l0_1.length c0_1), (.slice A0_2 l0_2.length c0_2)] 27 (0, 0))) ∧ Aside0 (wc.heap[gb149]? = some (.cells #[.int .i64 a1_0, (.slice A1_1 l1_1.length c1_1), (.slice A1_2 l1_2.length c1_2)] 27 (0, 0))) ∧ Aside0 (Below w.heap.size w wc))
  case first =>
    have H := HC3.out
    clear HC3
    by_cases c6 : a0_0 = a1_0
    · rw [if_pos c6] at H
      have c6b0 : (a0_0 == a1_0) = true := beq_iff_eq.mpr c6
      have c6b1 : (a0_0 != a1_0) = false := bne_eq_false_iff_eq.mpr c6
      clear c6
      (first | rw [c6b0] | (simp only [i64_w, i32_w]; rw [c6b0]) | skip)
      replace H := Option.bind_eq_some_iff.mp H
      obtain ⟨t150, A70, H⟩ := H
      replace H : (if t150 = true then (retconkit_SamePage.j0 k ((l0_2.length : Int) != (l1_2.length : Int)) a0_0 l0_1 l0_2 a1_0 l1_1 l1_2) else (retconkit_SamePage.j0 k true a0_0 l0_1 l0_2 a1_0 l1_1 l1_2)) = some r := H
      have A7 := Aside0.mk A70
      clear A70
      by_cases c8 : t150 = true
      · subst c8
        have H1 : (retconkit_SamePage.j0 k ((l0_2.length : Int) != (l1_2.length : Int)) a0_0 l0_1 l0_2 a1_0 l1_1 l1_2) = some r := by rw [if_pos rfl] at H; exact H
        clear H
        have H := H1
        clear H1
        have H' := Aside0.mk H
        clear H
        have hnb9 := NB148_149.out
        have hnc9 := NB149_148.out
        have hcz10_0 : w5.cell? ⟨gb148, 0, none⟩ = some (.int .i64 a0_0) := (blk_cell BK148.out 0).trans rfl
        have hcz10_1 : w5.cell? ⟨gb148, 1, none⟩ = some (.slice A0_1 l0_1.length c0_1) := (blk_cell BK148.out 1).trans rfl
        have hcz10_2 : w5.cell? ⟨gb148, 2, none⟩ = some (.slice A0_2 l0_2.length c0_2) := (blk_cell BK148.out 2).trans rfl
        have hfz10_0 := blk_frozen BK148.out 0
        have hfz10_1 := blk_frozen BK148.out 1
        have hfz10_2 := blk_frozen BK148.out 2
        have hcz11_0 : w5.cell? ⟨gb149, 0, none⟩ = some (.int .i64 a1_0) := (blk_cell BK149.out 0).trans rfl
        have hcz11_1 : w5.cell? ⟨gb149, 1, none⟩ = some (.slice A1_1 l1_1.length c1_1) := (blk_cell BK149.out 1).trans rfl
        have hcz11_2 : w5.cell? ⟨gb149, 2, none⟩ = some (.slice A1_2 l1_2.length c1_2) := (blk_cell BK149.out 2).trans rfl
        have hfz11_0 := blk_frozen BK149.out 0
        have hfz11_1 := blk_frozen BK149.out 1
        have hfz11_2 := blk_frozen BK149.out 2
        go_wp2_with (first | (go_at_call 44; (with_reducible refine (retconkit_SamePairs.calls k _ _ l0_1 _ _ l1_1 true _ ?side1 ?side2 ?side3 ?side4 A7.out).mono ?_); (case side1 => repeat (first | exact (Kd.C_below HR0_1.out HB.out) | (with_reducible refine Kd.C_alloc ?_ _) | (with_reducible refine Kd.C_drewN ?_ _) | (with_reducible refine Kd.C_drew ?_))); (case side2 => exact HC0_1.out); (case side3 => repeat (first | exact (Kd.C_below HR1_1.out HB.out) | (with_reducible refine Kd.C_alloc ?_ _) | (with_reducible refine Kd.C_drewN ?_ _) | (with_reducible refine Kd.C_drew ?_))); (case side4 => exact HC1_1.out); rintro e w' ⟨rfl, ⟨nd, rfl⟩⟩; (try first | exact ⟨rfl, _, World.drewN_drewN _ _ _⟩ | exact ⟨rfl, _, Eq.trans (World.drewN_drewN _ _ _) (congrArg (World.drewN _) (Nat.add_assoc _ _ _))⟩)))
        repeat (go_quiet (first | (go_at_call 44; (with_reducible refine (retconkit_SamePairs.calls k _ _ l0_1 _ _ l1_1 true _ ?side1 ?side2 ?side3 ?side4 A7.out).mono ?_); (case side1 => repeat (first | exact (Kd.C_below HR0_1.out HB.out) | (with_reducible refine Kd.C_alloc ?_ _) | (with_reducible refine Kd.C_drewN ?_ _) | (with_reducible refine Kd.C_drew ?_))); (case side2 => exact HC0_1.out); (case side3 => repeat (first | exact (Kd.C_below HR1_1.out HB.out) | (with_reducible refine Kd.C_alloc ?_ _) | (with_reducible refine Kd.C_drewN ?_ _) | (with_reducible refine Kd.C_drew ?_))); (case side4 => exact HC1_1.out); rintro e w' ⟨rfl, ⟨nd, rfl⟩⟩; (try first | exact ⟨rfl, _, World.drewN_drewN _ _ _⟩ | exact ⟨rfl, _, Eq.trans (World.drewN_drewN _ _ _) (congrArg (World.drewN _) (Nat.add_assoc _ _ _))⟩))); try go_wp2_with (first | (go_at_call 44; (with_reducible refine (retconkit_SamePairs.calls k _ _ l0_1 _ _ l1_1 true _ ?side1 ?side2 ?side3 ?side4 A7.out).mono ?_); (case side1 => repeat (first | exact (Kd.C_below HR0_1.out HB.out) | (with_reducible refine Kd.C_alloc ?_ _) | (with_reducible refine Kd.C_drewN ?_ _) | (with_reducible refine Kd.C_drew ?_))); (case side2 => exact HC0_1.out); (case side3 => repeat (first | exact (Kd.C_below HR1_1.out HB.out) | (with_reducible refine Kd.C_alloc ?_ _) | (with_reducible refine Kd.C_drewN ?_ _) | (with_reducible refine Kd.C_drew ?_))); (case side4 => exact HC1_1.out); rintro e w' ⟨rfl, ⟨nd, rfl⟩⟩; (try first | exact ⟨rfl, _, World.drewN_drewN _ _ _⟩ | exact ⟨rfl, _, Eq.trans (World.drewN_drewN _ _ _) (congrArg (World.drewN _) (Nat.add_assoc _ _ _))⟩))))
        go_meet
        case rel => exact ⟨_, (((l0_2.length : Int) != (l1_2.length : Int))), (by first | rfl | (simp; done) | (simp [*]; done)), H', ⟨by first | omega | exact Nat.le_refl _⟩, ⟨by (with_reducible repeat (first | refine blk_drewN ?_ _ | refine blk_drew ?_ | refine blk_alloc ?_ _)); exact BK148.out⟩, ⟨by (with_reducible repeat (first | refine blk_drewN ?_ _ | refine blk_drew ?_ | refine blk_alloc ?_ _)); exact BK149.out⟩, ⟨by repeat (first | (with_reducible first | exact HB.out | apply below_alloc | apply pw_below_drewN | apply below_drew1 | refine below_set ?_ GE148.out | refine below_set ?_ GE149.out) | exact HB.out)⟩⟩
      · replace c8 := Bool.eq_false_iff.mpr c8
        subst c8
        have H1 : (retconkit_SamePage.j0 k true a0_0 l0_1 l0_2 a1_0 l1_1 l1_2) = some r := by rw [if_neg (show ¬ (false = true) by decide)] at H; exact H
        clear H
        have H := H1
        clear H1
        have H' := Aside0.mk H
        clear H
        have hnb12 := NB148_149.out
        have hnc12 := NB149_148.out
        have hcz13_0 : w5.cell? ⟨gb148, 0, none⟩ = some (.int .i64 a0_0) := (blk_cell BK148.out 0).trans rfl
        have hcz13_1 : w5.cell? ⟨gb148, 1, none⟩ = some (.slice A0_1 l0_1.length c0_1) := (blk_cell BK148.out 1).trans rfl
        have hcz13_2 : w5.cell? ⟨gb148, 2, none⟩ = some (.slice A0_2 l0_2.length c0_2) := (blk_cell BK148.out 2).trans rfl
        have hfz13_0 := blk_frozen BK148.out 0
        have hfz13_1 := blk_frozen BK148.out 1
        have hfz13_2 := blk_frozen BK148.out 2
        have hcz14_0 : w5.cell? ⟨gb149, 0, none⟩ = some (.int .i64 a1_0) := (blk_cell BK149.out 0).trans rfl
        have hcz14_1 : w5.cell? ⟨gb149, 1, none⟩ = some (.slice A1_1 l1_1.length c1_1) := (blk_cell BK149.out 1).trans rfl
        have hcz14_2 : w5.cell? ⟨gb149, 2, none⟩ = some (.slice A1_2 l1_2.length c1_2) := (blk_cell BK149.out 2).trans rfl
        have hfz14_0 := blk_frozen BK149.out 0
        have hfz14_1 := blk_frozen BK149.out 1
        have hfz14_2 := blk_frozen BK149.out 2
        go_wp2_with (first | (go_at_call 44; (with_reducible refine (retconkit_SamePairs.calls k _ _ l0_1 _ _ l1_1 false _ ?side1 ?side2 ?side3 ?side4 A7.out).mono ?_); (case side1 => repeat (first | exact (Kd.C_below HR0_1.out HB.out) | (with_reducible refine Kd.C_alloc ?_ _) | (with_reducible refine Kd.C_drewN ?_ _) | (with_reducible refine Kd.C_drew ?_))); (case side2 => exact HC0_1.out); (case side3 => repeat (first | exact (Kd.C_below HR1_1.out HB.out) | (with_reducible refine Kd.C_alloc ?_ _) | (with_reducible refine Kd.C_drewN ?_ _) | (with_reducible refine Kd.C_drew ?_))); (case side4 => exact HC1_1.out); rintro e w' ⟨rfl, ⟨nd, rfl⟩⟩; (try first | exact ⟨rfl, _, World.drewN_drewN _ _ _⟩ | exact ⟨rfl, _, Eq.trans (World.drewN_drewN _ _ _) (congrArg (World.drewN _) (Nat.add_assoc _ _ _))⟩)))
        repeat (go_quiet (first | (go_at_call 44; (with_reducible refine (retconkit_SamePairs.calls k _ _ l0_1 _ _ l1_1 false _ ?side1 ?side2 ?side3 ?side4 A7.out).mono ?_); (case side1 => repeat (first | exact (Kd.C_below HR0_1.out HB.out) | (with_reducible refine Kd.C_alloc ?_ _) | (with_reducible refine Kd.C_drewN ?_ _) | (with_reducible refine Kd.C_drew ?_))); (case side2 => exact HC0_1.out); (case side3 => repeat (first | exact (Kd.C_below HR1_1.out HB.out) | (with_reducible refine Kd.C_alloc ?_ _) | (with_reducible refine Kd.C_drewN ?_ _) | (with_reducible refine Kd.C_drew ?_))); (case side4 => exact HC1_1.out); rintro e w' ⟨rfl, ⟨nd, rfl⟩⟩; (try first | exact ⟨rfl, _, World.drewN_drewN _ _ _⟩ | exact ⟨rfl, _, Eq.trans (World.drewN_drewN _ _ _) (congrArg (World.drewN _) (Nat.add_assoc _ _ _))⟩))); try go_wp2_with (first | (go_at_call 44; (with_reducible refine (retconkit_SamePairs.calls k _ _ l0_1 _ _ l1_1 false _ ?side1 ?side2 ?side3 ?side4 A7.out).mono ?_); (case side1 => repeat (first | exact (Kd.C_below HR0_1.out HB.out) | (with_reducible refine Kd.C_alloc ?_ _) | (with_reducible refine Kd.C_drewN ?_ _) | (with_reducible refine Kd.C_drew ?_))); (case side2 => exact HC0_1.out); (case side3 => repeat (first | exact (Kd.C_below HR1_1.out HB.out) | (with_reducible refine Kd.C_alloc ?_ _) | (with_reducible refine Kd.C_drewN ?_ _) | (with_reducible refine Kd.C_drew ?_))); (case side4 => exact HC1_1.out); rintro e w' ⟨rfl, ⟨nd, rfl⟩⟩; (try first | exact ⟨rfl, _, World.drewN_drewN _ _ _⟩ | exact ⟨rfl, _, Eq.trans (World.drewN_drewN _ _ _) (congrArg (World.drewN _) (Nat.add_assoc _ _ _))⟩))))
        go_meet
        case rel => exact ⟨_, (true), (by first | rfl | (simp; done) | (simp [*]; done)), H', ⟨by first | omega | exact Nat.le_refl _⟩, ⟨by (with_reducible repeat (first | refine blk_drewN ?_ _ | refine blk_drew ?_ | refine blk_alloc ?_ _)); exact BK148.out⟩, ⟨by (with_reducible repeat (first | refine blk_drewN ?_ _ | refine blk_drew ?_ | refine blk_alloc ?_ _)); exact BK149.out⟩, ⟨by repeat (first | (with_reducible first | exact HB.out | apply below_alloc | apply pw_below_drewN | apply below_drew1 | refine below_set ?_ GE148.out | refine below_set ?_ GE149.out) | exact HB.out)⟩⟩
    · rw [if_neg c6] at H
      have c6b0 : (a0_0 == a1_0) = false := beq_eq_false_iff_ne.mpr c6
      have c6b1 : (a0_0 != a1_0) = true := bne_iff_ne.mpr c6
      (first | rw [c6b0] | (simp only [i64_w, i32_w]; rw [c6b0]) | skip)
      have H' := Aside0.mk H
      clear H
      have hnb15 := NB148_149.out
      have hnc15 := NB149_148.out
      have hcz16_0 : w5.cell? ⟨gb148, 0, none⟩ = some (.int .i64 a0_0) := (blk_cell BK148.out 0).trans rfl
      have hcz16_1 : w5.cell? ⟨gb148, 1, none⟩ = some (.slice A0_1 l0_1.length c0_1) := (blk_cell BK148.out 1).trans rfl
      have hcz16_2 : w5.cell? ⟨gb148, 2, none⟩ = some (.slice A0_2 l0_2.length c0_2) := (blk_cell BK148.out 2).trans rfl
      have hfz16_0 := blk_frozen BK148.out 0
      have hfz16_1 := blk_frozen BK148.out 1
      have hfz16_2 := blk_frozen BK148.out 2
      have hcz17_0 : w5.cell? ⟨gb149, 0, none⟩ = some (.int .i64 a1_0) := (blk_cell BK149.out 0).trans rfl
      have hcz17_1 : w5.cell? ⟨gb149, 1, none⟩ = some (.slice A1_1 l1_1.length c1_1) := (blk_cell BK149.out 1).trans rfl
      have hcz17_2 : w5.cell? ⟨gb149, 2, none⟩ = some (.slice A1_2 l1_2.length c1_2) := (blk_cell BK149.out 2).trans rfl
      have hfz17_0 := blk_frozen BK149.out 0
      have hfz17_1 := blk_frozen BK149.out 1
      have hfz17_2 := blk_frozen BK149.out 2
      go_wp2
      repeat (go_quiet (fail); try go_wp2)
      go_meet
      case rel => exact ⟨_, (true), (by first | rfl | (simp; done) | (simp [*]; done)), H', ⟨by first | omega | exact Nat.le_refl _⟩, ⟨by (with_reducible repeat (first | refine blk_drewN ?_ _ | refine blk_drew ?_ | refine blk_alloc ?_ _)); exact BK148.out⟩, ⟨by (with_reducible repeat (first | refine blk_drewN ?_ _ | refine blk_drew ?_ | refine blk_alloc ?_ _)); exact BK149.out⟩, ⟨by repeat (first | (with_reducible first | exact HB.out | apply below_alloc | apply pw_below_drewN | apply below_drew1 | refine below_set ?_ GE148.out | refine below_set ?_ GE149.out) | exact HB.out)⟩⟩
  case rest =>
    clear HC3
    try clear c1
    try clear p2
    try clear c6
    try clear c6b0
    try clear c6b1
    try clear c8
    try clear c9
    try clear c12
    try clear c15
    try clear hcz10_0
    try clear hcz10_1
    try clear hcz10_2
    try clear hcz11_0
    try clear hcz11_1
    try clear hcz11_2
    try clear hcz13_0
    try clear hcz13_1
    try clear hcz13_2
    try clear hcz14_0
    try clear hcz14_1
    try clear hcz14_2
    try clear hcz16_0
    try clear hcz16_1
    try clear hcz16_2
    try clear hcz17_0
    try clear hcz17_1
    try clear hcz17_2
    try clear hfz10_0
    try clear hfz10_1
    try clear hfz10_2
    try clear hfz11_0
    try clear hfz11_1
    try clear hfz11_2
    try clear hfz13_0
    try clear hfz13_1
    try clear hfz13_2
    try clear hfz14_0
    try clear hfz14_1
    try clear hfz14_2
    try clear hfz16_0
    try clear hfz16_1
    try clear hfz16_2
    try clear hfz17_0
    try clear hfz17_1
    try clear hfz17_2
    obtain ⟨kq, x27_2, rfl, HA, HJ2, BK148, BK149, HB⟩ := hcut
    cases kq with
    | zero => exact absurd HA.out (by simp [retconkit_SamePage.j0])
    | succ kj2 =>
      have H := HA.out
      clear HA
      simp only [retconkit_SamePage.j0] at H
      by_cases c18 : x27_2 = true
      · subst c18
        have H1 : (some false) = some r := by rw [if_pos rfl] at H; exact H
        clear H
        have H := H1
        clear H1
        obtain rfl := Option.some.inj H
        go_wp2
        repeat (go_quiet (fail); try go_wp2)
        go_ret
        exact ⟨by first | rfl | (simp [errW_none, errW_some] <;> rfl) | (simp [*, errW_none, errW_some] <;> rfl), by repeat (first | (with_reducible first | exact HB.out | apply below_alloc | apply pw_below_drewN | apply below_drew1 | refine below_set ?_ GE148.out | refine below_set ?_ GE149.out) | exact HB.out)⟩
      · replace c18 := Bool.eq_false_iff.mpr c18
        subst c18
        have H1 : (retconkit_SamePage.l0 kj2 0 a0_0 l0_1 l0_2 a1_0 l1_1 l1_2) = some r := by rw [if_neg (show ¬ (false = true) by decide)] at H; exact H
        clear H
        have H := H1
        clear H1
        have H' := Aside0.mk H
        clear H
        go_wp2
        repeat (go_quiet (fail); try go_wp2)
        go_loopg [5] kj2 (fun kq v5 w' => ∃ (x5_2 : Int), v5 = .int .i64 x5_2 ∧ Aside0 (retconkit_SamePage.l0 kq x5_2 a0_0 l0_1 l0_2 a1_0 l1_1 l1_2 = some r) ∧ Aside0 (kq ≤ kj2) ∧ Aside0 (w'.heap[gb148]? = some (.cells #[.int .i64 a0_0, (.slice A0_1 l0_1.length c0_1), (.slice A0_2 l0_2.length c0_2)] 27 (0, 0))) ∧ Aside0 (w'.heap[gb149]? = some (.cells #[.int .i64 a1_0, (.slice A1_1 l1_1.length c1_1), (.slice A1_2 l1_2.length c1_2)] 27 (0, 0))) ∧ Aside0 (Below w.heap.size w w'))
        case atStart => exact ⟨(0), (by first | rfl | (simp; done) | (simp [*]; done)), H', ⟨Nat.le_refl _⟩, ⟨by (with_reducible repeat (first | refine blk_drewN ?_ _ | refine blk_drew ?_ | refine blk_alloc ?_ _)); exact BK148.out⟩, ⟨by (with_reducible repeat (first | refine blk_drewN ?_ _ | refine blk_drew ?_ | refine blk_alloc ?_ _)); exact BK149.out⟩, ⟨by repeat (first | (with_reducible first | exact HB.out | apply below_alloc | apply pw_below_drewN | apply below_drew1 | refine below_set ?_ GE148.out | refine below_set ?_ GE149.out) | exact HB.out)⟩⟩
        case round =>
          clear H'
          try clear c1
          try clear p2
          try clear c6
          try clear c6b0
          try clear c6b1
          try clear c8
          try clear c9
          try clear c12
          try clear c15
          try clear c18
          try clear hcz10_0
          try clear hcz10_1
          try clear hcz10_2
          try clear hcz11_0
          try clear hcz11_1
          try clear hcz11_2
          try clear hcz13_0
          try clear hcz13_1
          try clear hcz13_2
          try clear hcz14_0
          try clear hcz14_1
          try clear hcz14_2
          try clear hcz16_0
          try clear hcz16_1
          try clear hcz16_2
          try clear hcz17_0
          try clear hcz17_1
          try clear hcz17_2
          try clear hfz10_0
          try clear hfz10_1
          try clear hfz10_2
          try clear hfz11_0
          try clear hfz11_1
          try clear hfz11_2
          try clear hfz13_0
          try clear hfz13_1
          try clear hfz13_2
          try clear hfz14_0
          try clear hfz14_1
          try clear hfz14_2
          try clear hfz16_0
          try clear hfz16_1
          try clear hfz16_2
          try clear hfz17_0
          try clear hfz17_1
          try clear hfz17_2
          try clear p2
          obtain ⟨x5_2, rfl, HA, HK2, BK148, BK149, HB⟩ := hrel
          cases gk with
          | zero => exact absurd HA.out (by simp [retconkit_SamePage.l0])
          | succ k2 =>
            have H := HA.out
            clear HA
            simp only [retconkit_SamePage.l0] at H
            by_cases c19 : x5_2 < (l0_2.length : Int)
            · rw [if_pos c19] at H
              have c19b0 : decide (x5_2 < (l0_2.length : Int)) = true := decide_eq_true c19
              clear c19
              by_cases c20 : 0 ≤ x5_2
              · rw [if_pos c20] at H
                have c20b0 : decide (0 ≤ x5_2) = true := decide_eq_true c20
                clear c20
                by_cases c21 : x5_2 < (l1_2.length : Int)
                · rw [if_pos c21] at H
                  have c21b0 : decide (x5_2 < (l1_2.length : Int)) = true := decide_eq_true c21
                  clear c21
                  by_cases c22 : (!((((rd_T66 l0_2 x5_2).f0).toList) == (((rd_T66 l1_2 x5_2).f0).toList)) || ((!(((rd_T66 l0_2 x5_2).f1.f0) == ((rd_T66 l1_2 x5_2).f1.f0)) || (!(((rd_T66 l0_2 x5_2).f1.f1) == ((rd_T66 l1_2 x5_2).f1.f1)) || (!(((rd_T66 l0_2 x5_2).f1.f2) == ((rd_T66 l1_2 x5_2).f1.f2)) || (!(((rd_T66 l0_2 x5_2).f1.f3) == ((rd_T66 l1_2 x5_2).f1.f3)) || (!(((rd_T66 l0_2 x5_2).f1.f4) == ((rd_T66 l1_2 x5_2).f1.f4)) || (!(((rd_T66 l0_2 x5_2).f1.f5) == ((rd_T66 l1_2 x5_2).f1.f5)) || (!(((rd_T66 l0_2 x5_2).f1.f6) == ((rd_T66 l1_2 x5_2).f1.f6)) || (!(((rd_T66 l0_2 x5_2).f1.f7) == ((rd_T66 l1_2 x5_2).f1.f7)) || (!(((rd_T66 l0_2 x5_2).f1.f8) == ((rd_T66 l1_2 x5_2).f1.f8)) || (!(((rd_T66 l0_2 x5_2).f1.f9) == ((rd_T66 l1_2 x5_2).f1.f9)) || (!(((rd_T66 l0_2 x5_2).f1.f10) == ((rd_T66 l1_2 x5_2).f1.f10)) || (!(((rd_T66 l0_2 x5_2).f1.f11) == ((rd_T66 l1_2 x5_2).f1.f11)) || (!(((rd_T66 l0_2 x5_2).f1.f12) == ((rd_T66 l1_2 x5_2).f1.f12)) || (!(((rd_T66 l0_2 x5_2).f1.f13) == ((rd_T66 l1_2 x5_2).f1.f13)) || (!(((rd_T66 l0_2 x5_2).f1.f14) == ((rd_T66 l1_2 x5_2).f1.f14)) || (!(((rd_T66 l0_2 x5_2).f1.f15) == ((rd_T66 l1_2 x5_2).f1.f15)) || (!(((rd_T66 l0_2 x5_2).f1.f16) == ((rd_T66 l1_2 x5_2).f1.f16)) || (!(((rd_T66 l0_2 x5_2).f1.f17) == ((rd_T66 l1_2 x5_2).f1.f17)) || (!(((rd_T66 l0_2 x5_2).f1.f18) == ((rd_T66 l1_2 x5_2).f1.f18)) || (!(((rd_T66 l0_2 x5_2).f1.f19) == ((rd_T66 l1_2 x5_2).f1.f19)) || (!(((rd_T66 l0_2 x5_2).f1.f20) == ((rd_T66 l1_2 x5_2).f1.f20)) || (!(((rd_T66 l0_2 x5_2).f1.f21) == ((rd_T66 l1_2 x5_2).f1.f21)) || (!(((rd_T66 l0_2 x5_2).f1.f22) == ((rd_T66 l1_2 x5_2).f1.f22)) || (!(((rd_T66 l0_2 x5_2).f1.f23) == ((rd_T66 l1_2 x5_2).f1.f23)) || (!(((rd_T66 l0_2 x5_2).f1.f24) == ((rd_T66 l1_2 x5_2).f1.f24)) || (!(((rd_T66 l0_2 x5_2).f1.f25) == ((rd_T66 l1_2 x5_2).f1.f25)) || (!(((rd_T66 l0_2 x5_2).f1.f26) == ((rd_T66 l1_2 x5_2).f1.f26)) || (!(((rd_T66 l0_2 x5_2).f1.f27) == ((rd_T66 l1_2 x5_2).f1.f27)) || (!(((rd_T66 l0_2 x5_2).f1.f28) == ((rd_T66 l1_2 x5_2).f1.f28)) || (!(((rd_T66 l0_2 x5_2).f1.f29) == ((rd_T66 l1_2 x5_2).f1.f29)) || (!(((rd_T66 l0_2 x5_2).f1.f30) == ((rd_T66 l1_2 x5_2).f1.f30)) || (!(((rd_T66 l0_2 x5_2).f1.f31) == ((rd_T66 l1_2 x5_2).f1.f31)))))))))))))))))))))))))))))))))) || (!(((rd_T66 l0_2 x5_2).f2) == ((rd_T66 l1_2 x5_2).f2))))) = true
                  · rw [if_pos c22] at H
                    have c22b0 : (!((((rd_T66 l0_2 x5_2).f0).toList) == (((rd_T66 l1_2 x5_2).f0).toList)) || ((!(((rd_T66 l0_2 x5_2).f1.f0) == ((rd_T66 l1_2 x5_2).f1.f0)) || (!(((rd_T66 l0_2 x5_2).f1.f1) == ((rd_T66 l1_2 x5_2).f1.f1)) || (!(((rd_T66 l0_2 x5_2).f1.f2) == ((rd_T66 l1_2 x5_2).f1.f2)) || (!(((rd_T66 l0_2 x5_2).f1.f3) == ((rd_T66 l1_2 x5_2).f1.f3)) || (!(((rd_T66 l0_2 x5_2).f1.f4) == ((rd_T66 l1_2 x5_2).f1.f4)) || (!(((rd_T66 l0_2 x5_2).f1.f5) == ((rd_T66 l1_2 x5_2).f1.f5)) || (!(((rd_T66 l0_2 x5_2).f1.f6) == ((rd_T66 l1_2 x5_2).f1.f6)) || (!(((rd_T66 l0_2 x5_2).f1.f7) == ((rd_T66 l1_2 x5_2).f1.f7)) || (!(((rd_T66 l0_2 x5_2).f1.f8) == ((rd_T66 l1_2 x5_2).f1.f8)) || (!(((rd_T66 l0_2 x5_2).f1.f9) == ((rd_T66 l1_2 x5_2).f1.f9)) || (!(((rd_T66 l0_2 x5_2).f1.f10) == ((rd_T66 l1_2 x5_2).f1.f10)) || (!(((rd_T66 l0_2 x5_2).f1.f11) == ((rd_T66 l1_2 x5_2).f1.f11)) || (!(((rd_T66 l0_2 x5_2).f1.f12) == ((rd_T66 l1_2 x5_2).f1.f12)) || (!(((rd_T66 l0_2 x5_2).f1.f13) == ((rd_T66 l1_2 x5_2).f1.f13)) || (!(((rd_T66 l0_2 x5_2).f1.f14) == ((rd_T66 l1_2 x5_2).f1.f14)) || (!(((rd_T66 l0_2 x5_2).f1.f15) == ((rd_T66 l1_2 x5_2).f1.f15)) || (!(((rd_T66 l0_2 x5_2).f1.f16) == ((rd_T66 l1_2 x5_2).f1.f16)) || (!(((rd_T66 l0_2 x5_2).f1.f17) == ((rd_T66 l1_2 x5_2).f1.f17)) || (!(((rd_T66 l0_2 x5_2).f1.f18) == ((rd_T66 l1_2 x5_2).f1.f18)) || (!(((rd_T66 l0_2 x5_2).f1.f19) == ((rd_T66 l1_2 x5_2).f1.f19)) || (!(((rd_T66 l0_2 x5_2).f1.f20) == ((rd_T66 l1_2 x5_2).f1.f20)) || (!(((rd_T66 l0_2 x5_2).f1.f21) == ((rd_T66 l1_2 x5_2).f1.f21)) || (!(((rd_T66 l0_2 x5_2).f1.f22) == ((rd_T66 l1_2 x5_2).f1.f22)) || (!(((rd_T66 l0_2 x5_2).f1.f23) == ((rd_T66 l1_2 x5_2).f1.f23)) || (!(((rd_T66 l0_2 x5_2).f1.f24) == ((rd_T66 l1_2 x5_2).f1.f24)) || (!(((rd_T66 l0_2 x5_2).f1.f25) == ((rd_T66 l1_2 x5_2).f1.f25)) || (!(((rd_T66 l0_2 x5_2).f1.f26) == ((rd_T66 l1_2 x5_2).f1.f26)) || (!(((rd_T66 l0_2 x5_2).f1.f27) == ((rd_T66 l1_2 x5_2).f1.f27)) || (!(((rd_T66 l0_2 x5_2).f1.f28) == ((rd_T66 l1_2 x5_2).f1.f28)) || (!(((rd_T66 l0_2 x5_2).f1.f29) == ((rd_T66 l1_2 x5_2).f1.f29)) || (!(((rd_T66 l0_2 x5_2).f1.f30) == ((rd_T66 l1_2 x5_2).f1.f30)) || (!(((rd_T66 l0_2 x5_2).f1.f31) == ((rd_T66 l1_2 x5_2).f1.f31)))))))))))))))))))))))))))))))))) || (!(((rd_T66 l0_2 x5_2).f2) == ((rd_T66 l1_2 x5_2).f2))))) = true := c22
                    clear c22
                    obtain rfl := Option.some.inj H
                    have hnb23 := NB148_149.out
                    have hnc23 := NB149_148.out
                    have hcz24_0 : wr.cell? ⟨gb148, 0, none⟩ = some (.int .i64 a0_0) := (blk_cell BK148.out 0).trans rfl
                    have hcz24_1 : wr.cell? ⟨gb148, 1, none⟩ = some (.slice A0_1 l0_1.length c0_1) := (blk_cell BK148.out 1).trans rfl
                    have hcz24_2 : wr.cell? ⟨gb148, 2, none⟩ = some (.slice A0_2 l0_2.length c0_2) := (blk_cell BK148.out 2).trans rfl
                    have hfz24_0 := blk_frozen BK148.out 0
                    have hfz24_1 := blk_frozen BK148.out 1
                    have hfz24_2 := blk_frozen BK148.out 2
                    have p151 : 0 ≤ (x5_2 : Int) := of_decide_eq_true (by first | (with_reducible assumption) | assumption)
                    have q151 : x5_2 < (l0_2.length : Int) := of_decide_eq_true (by first | (with_reducible assumption) | assumption)
                    obtain ⟨ad151, e151, hx151_0, hx151_1, hx151_2, hx151_3, hx151_4, hx151_5, hx151_6, hx151_7, hx151_8, hx151_9, hx151_10, hx151_11, hx151_12, hx151_13, hx151_14, hx151_15, hx151_16, hx151_17, hx151_18, hx151_19, hx151_20, hx151_21, hx151_22, hx151_23, hx151_24, hx151_25, hx151_26, hx151_27, hx151_28, hx151_29, hx151_30, hx151_31, hx151_32, hx151_33⟩ := at_T66 HR0_2.out x5_2 p151 q151
                    cases e151
                    replace hx151_0 := (HB.out.cell (World.block_lt_of_cell? w _ hx151_0)).trans hx151_0
                    replace hx151_1 := (HB.out.cell (World.block_lt_of_cell? w _ hx151_1)).trans hx151_1
                    replace hx151_2 := (HB.out.cell (World.block_lt_of_cell? w _ hx151_2)).trans hx151_2
                    replace hx151_3 := (HB.out.cell (World.block_lt_of_cell? w _ hx151_3)).trans hx151_3
                    replace hx151_4 := (HB.out.cell (World.block_lt_of_cell? w _ hx151_4)).trans hx151_4
                    replace hx151_5 := (HB.out.cell (World.block_lt_of_cell? w _ hx151_5)).trans hx151_5
                    replace hx151_6 := (HB.out.cell (World.block_lt_of_cell? w _ hx151_6)).trans hx151_6
                    replace hx151_7 := (HB.out.cell (World.block_lt_of_cell? w _ hx151_7)).trans hx151_7
                    replace hx151_8 := (HB.out.cell (World.block_lt_of_cell? w _ hx151_8)).trans hx151_8
                    replace hx151_9 := (HB.out.cell (World.block_lt_of_cell? w _ hx151_9)).trans hx151_9
                    replace hx151_10 := (HB.out.cell (World.block_lt_of_cell? w _ hx151_10)).trans hx151_10
                    replace hx151_11 := (HB.out.cell (World.block_lt_of_cell? w _ hx151_11)).trans hx151_11
                    replace hx151_12 := (HB.out.cell (World.block_lt_of_cell? w _ hx151_12)).trans hx151_12
                    replace hx151_13 := (HB.out.cell (World.block_lt_of_cell? w _ hx151_13)).trans hx151_13
                    replace hx151_14 := (HB.out.cell (World.block_lt_of_cell? w _ hx151_14)).trans hx151_14
                    replace hx151_15 := (HB.out.cell (World.block_lt_of_cell? w _ hx151_15)).trans hx151_15
                    replace hx151_16 := (HB.out.cell (World.block_lt_of_cell? w _ hx151_16)).trans hx151_16
                    replace hx151_17 := (HB.out.cell (World.block_lt_of_cell? w _ hx151_17)).trans hx151_17
                    replace hx151_18 := (HB.out.cell (World.block_lt_of_cell? w _ hx151_18)).trans hx151_18
                    replace hx151_19 := (HB.out.cell (World.block_lt_of_cell? w _ hx151_19)).trans hx151_19
                    replace hx151_20 := (HB.out.cell (World.block_lt_of_cell? w _ hx151_20)).trans hx151_20
                    replace hx151_21 := (HB.out.cell (World.block_lt_of_cell? w _ hx151_21)).trans hx151_21
                    replace hx151_22 := (HB.out.cell (World.block_lt_of_cell? w _ hx151_22)).trans hx151_22
                    replace hx151_23 := (HB.out.cell (World.block_lt_of_cell? w _ hx151_23)).trans hx151_23
                    replace hx151_24 := (HB.out.cell (World.block_lt_of_cell? w _ hx151_24)).trans hx151_24
                    replace hx151_25 := (HB.out.cell (World.block_lt_of_cell? w _ hx151_25)).trans hx151_25
                    replace hx151_26 := (HB.out.cell (World.block_lt_of_cell? w _ hx151_26)).trans hx151_26
                    replace hx151_27 := (HB.out.cell (World.block_lt_of_cell? w _ hx151_27)).trans hx151_27
                    replace hx151_28 := (HB.out.cell (World.block_lt_of_cell? w _ hx151_28)).trans hx151_28
                    replace hx151_29 := (HB.out.cell (World.block_lt_of_cell? w _ hx151_29)).trans hx151_29
                    replace hx151_30 := (HB.out.cell (World.block_lt_of_cell? w _ hx151_30)).trans hx151_30
                    replace hx151_31 := (HB.out.cell (World.block_lt_of_cell? w _ hx151_31)).trans hx151_31
                    replace hx151_32 := (HB.out.cell (World.block_lt_of_cell? w _ hx151_32)).trans hx151_32
                    replace hx151_33 := (HB.out.cell (World.block_lt_of_cell? w _ hx151_33)).trans hx151_33
                    (first | (obtain ⟨hr151, hrn151⟩ := row66_mk hx151_0 hx151_1 hx151_2 hx151_3 hx151_4 hx151_5 hx151_6 hx151_7 hx151_8 hx151_9 hx151_10 hx151_11 hx151_12 hx151_13 hx151_14 hx151_15 hx151_16 hx151_17 hx151_18 hx151_19 hx151_20 hx151_21 hx151_22 hx151_23 hx151_24 hx151_25 hx151_26 hx151_27 hx151_28 hx151_29 hx151_30 hx151_31 hx151_32 hx151_33; clear hx151_1 hx151_2 hx151_3 hx151_4 hx151_5 hx151_6 hx151_7 hx151_8 hx151_9 hx151_10 hx151_11 hx151_12 hx151_13 hx151_14 hx151_15 hx151_16 hx151_17 hx151_18 hx151_19 hx151_20 hx151_21 hx151_22 hx151_23 hx151_24 hx151_25 hx151_26 hx151_27 hx151_28 hx151_29 hx151_30 hx151_31 hx151_32) | skip)
                    replace p151 := eq_true p151
                    replace q151 := eq_true q151
                    have hcz25_0 : wr.cell? ⟨gb149, 0, none⟩ = some (.int .i64 a1_0) := (blk_cell BK149.out 0).trans rfl
                    have hcz25_1 : wr.cell? ⟨gb149, 1, none⟩ = some (.slice A1_1 l1_1.length c1_1) := (blk_cell BK149.out 1).trans rfl
                    have hcz25_2 : wr.cell? ⟨gb149, 2, none⟩ = some (.slice A1_2 l1_2.length c1_2) := (blk_cell BK149.out 2).trans rfl
                    have hfz25_0 := blk_frozen BK149.out 0
                    have hfz25_1 := blk_frozen BK149.out 1
                    have hfz25_2 := blk_frozen BK149.out 2
                    have p152 : 0 ≤ (x5_2 : Int) := of_decide_eq_true (by first | (with_reducible assumption) | assumption)
                    have q152 : x5_2 < (l1_2.length : Int) := of_decide_eq_true (by first | (with_reducible assumption) | assumption)
                    obtain ⟨ad152, e152, hx152_0, hx152_1, hx152_2, hx152_3, hx152_4, hx152_5, hx152_6, hx152_7, hx152_8, hx152_9, hx152_10, hx152_11, hx152_12, hx152_13, hx152_14, hx152_15, hx152_16, hx152_17, hx152_18, hx152_19, hx152_20, hx152_21, hx152_22, hx152_23, hx152_24, hx152_25, hx152_26, hx152_27, hx152_28, hx152_29, hx152_30, hx152_31, hx152_32, hx152_33⟩ := at_T66 HR1_2.out x5_2 p152 q152
                    cases e152
                    replace hx152_0 := (HB.out.cell (World.block_lt_of_cell? w _ hx152_0)).trans hx152_0
                    replace hx152_1 := (HB.out.cell (World.block_lt_of_cell? w _ hx152_1)).trans hx152_1
                    replace hx152_2 := (HB.out.cell (World.block_lt_of_cell? w _ hx152_2)).trans hx152_2
                    replace hx152_3 := (HB.out.cell (World.block_lt_of_cell? w _ hx152_3)).trans hx152_3
                    replace hx152_4 := (HB.out.cell (World.block_lt_of_cell? w _ hx152_4)).trans hx152_4
                    replace hx152_5 := (HB.out.cell (World.block_lt_of_cell? w _ hx152_5)).trans hx152_5
                    replace hx152_6 := (HB.out.cell (World.block_lt_of_cell? w _ hx152_6)).trans hx152_6
                    replace hx152_7 := (HB.out.cell (World.block_lt_of_cell? w _ hx152_7)).trans hx152_7
                    replace hx152_8 := (HB.out.cell (World.block_lt_of_cell? w _ hx152_8)).trans hx152_8
                    replace hx152_9 := (HB.out.cell (World.block_lt_of_cell? w _ hx152_9)).trans hx152_9
                    replace hx152_10 := (HB.out.cell (World.block_lt_of_cell? w _ hx152_10)).trans hx152_10
                    replace hx152_11 := (HB.out.cell (World.block_lt_of_cell? w _ hx152_11)).trans hx152_11
                    replace hx152_12 := (HB.out.cell (World.block_lt_of_cell? w _ hx152_12)).trans hx152_12
                    replace hx152_13 := (HB.out.cell (World.block_lt_of_cell? w _ hx152_13)).trans hx152_13
                    replace hx152_14 := (HB.out.cell (World.block_lt_of_cell? w _ hx152_14)).trans hx152_14
                    replace hx152_15 := (HB.out.cell (World.block_lt_of_cell? w _ hx152_15)).trans hx152_15
                    replace hx152_16 := (HB.out.cell (World.block_lt_of_cell? w _ hx152_16)).trans hx152_16
                    replace hx152_17 := (HB.out.cell (World.block_lt_of_cell? w _ hx152_17)).trans hx152_17
                    replace hx152_18 := (HB.out.cell (World.block_lt_of_cell? w _ hx152_18)).trans hx152_18
                    replace hx152_19 := (HB.out.cell (World.block_lt_of_cell? w _ hx152_19)).trans hx152_19
                    replace hx152_20 := (HB.out.cell (World.block_lt_of_cell? w _ hx152_20)).trans hx152_20
                    replace hx152_21 := (HB.out.cell (World.block_lt_of_cell? w _ hx152_21)).trans hx152_21
                    replace hx152_22 := (HB.out.cell (World.block_lt_of_cell? w _ hx152_22)).trans hx152_22
                    replace hx152_23 := (HB.out.cell (World.block_lt_of_cell? w _ hx152_23)).trans hx152_23
                    replace hx152_24 := (HB.out.cell (World.block_lt_of_cell? w _ hx152_24)).trans hx152_24
                    replace hx152_25 := (HB.out.cell (World.block_lt_of_cell? w _ hx152_25)).trans hx152_25
                    replace hx152_26 := (HB.out.cell (World.block_lt_of_cell? w _ hx152_26)).trans hx152_26
                    replace hx152_27 := (HB.out.cell (World.block_lt_of_cell? w _ hx152_27)).trans hx152_27
                    replace hx152_28 := (HB.out.cell (World.block_lt_of_cell? w _ hx152_28)).trans hx152_28
                    replace hx152_29 := (HB.out.cell (World.block_lt_of_cell? w _ hx152_29)).trans hx152_29
                    replace hx152_30 := (HB.out.cell (World.block_lt_of_cell? w _ hx152_30)).trans hx152_30
                    replace hx152_31 := (HB.out.cell (World.block_lt_of_cell? w _ hx152_31)).trans hx152_31
                    replace hx152_32 := (HB.out.cell (World.block_lt_of_cell? w _ hx152_32)).trans hx152_32
                    replace hx152_33 := (HB.out.cell (World.block_lt_of_cell? w _ hx152_33)).trans hx152_33
                    (first | (obtain ⟨hr152, hrn152⟩ := row66_mk hx152_0 hx152_1 hx152_2 hx152_3 hx152_4 hx152_5 hx152_6 hx152_7 hx152_8 hx152_9 hx152_10 hx152_11 hx152_12 hx152_13 hx152_14 hx152_15 hx152_16 hx152_17 hx152_18 hx152_19 hx152_20 hx152_21 hx152_22 hx152_23 hx152_24 hx152_25 hx152_26 hx152_27 hx152_28 hx152_29 hx152_30 hx152_31 hx152_32 hx152_33; clear hx152_1 hx152_2 hx152_3 hx152_4 hx152_5 hx152_6 hx152_7 hx152_8 hx152_9 hx152_10 hx152_11 hx152_12 hx152_13 hx152_14 hx152_15 hx152_16 hx152_17 hx152_18 hx152_19 hx152_20 hx152_21 hx152_22 hx152_23 hx152_24 hx152_25 hx152_26 hx152_27 hx152_28 hx152_29 hx152_30 hx152_31 hx152_32) | skip)
                    replace p152 := eq_true p152
                    replace q152 := eq_true q152
                    go_wp2
                    repeat (go_quiet (fail); try go_wp2)
                    go_ret
                    exact ⟨by first | rfl | (simp [errW_none, errW_some] <;> rfl) | (simp [*, errW_none, errW_some] <;> rfl), by repeat (first | (with_reducible first | exact HB.out | apply below_alloc | apply pw_below_drewN | apply below_drew1 | refine below_set ?_ GE148.out | refine below_set ?_ GE149.out) | exact HB.out)⟩
                  · rw [if_neg c22] at H
                    have c22b0 : (!((((rd_T66 l0_2 x5_2).f0).toList) == (((rd_T66 l1_2 x5_2).f0).toList)) || ((!(((rd_T66 l0_2 x5_2).f1.f0) == ((rd_T66 l1_2 x5_2).f1.f0)) || (!(((rd_T66 l0_2 x5_2).f1.f1) == ((rd_T66 l1_2 x5_2).f1.f1)) || (!(((rd_T66 l0_2 x5_2).f1.f2) == ((rd_T66 l1_2 x5_2).f1.f2)) || (!(((rd_T66 l0_2 x5_2).f1.f3) == ((rd_T66 l1_2 x5_2).f1.f3)) || (!(((rd_T66 l0_2 x5_2).f1.f4) == ((rd_T66 l1_2 x5_2).f1.f4)) || (!(((rd_T66 l0_2 x5_2).f1.f5) == ((rd_T66 l1_2 x5_2).f1.f5)) || (!(((rd_T66 l0_2 x5_2).f1.f6) == ((rd_T66 l1_2 x5_2).f1.f6)) || (!(((rd_T66 l0_2 x5_2).f1.f7) == ((rd_T66 l1_2 x5_2).f1.f7)) || (!(((rd_T66 l0_2 x5_2).f1.f8) == ((rd_T66 l1_2 x5_2).f1.f8)) || (!(((rd_T66 l0_2 x5_2).f1.f9) == ((rd_T66 l1_2 x5_2).f1.f9)) || (!(((rd_T66 l0_2 x5_2).f1.f10) == ((rd_T66 l1_2 x5_2).f1.f10)) || (!(((rd_T66 l0_2 x5_2).f1.f11) == ((rd_T66 l1_2 x5_2).f1.f11)) || (!(((rd_T66 l0_2 x5_2).f1.f12) == ((rd_T66 l1_2 x5_2).f1.f12)) || (!(((rd_T66 l0_2 x5_2).f1.f13) == ((rd_T66 l1_2 x5_2).f1.f13)) || (!(((rd_T66 l0_2 x5_2).f1.f14) == ((rd_T66 l1_2 x5_2).f1.f14)) || (!(((rd_T66 l0_2 x5_2).f1.f15) == ((rd_T66 l1_2 x5_2).f1.f15)) || (!(((rd_T66 l0_2 x5_2).f1.f16) == ((rd_T66 l1_2 x5_2).f1.f16)) || (!(((rd_T66 l0_2 x5_2).f1.f17) == ((rd_T66 l1_2 x5_2).f1.f17)) || (!(((rd_T66 l0_2 x5_2).f1.f18) == ((rd_T66 l1_2 x5_2).f1.f18)) || (!(((rd_T66 l0_2 x5_2).f1.f19) == ((rd_T66 l1_2 x5_2).f1.f19)) || (!(((rd_T66 l0_2 x5_2).f1.f20) == ((rd_T66 l1_2 x5_2).f1.f20)) || (!(((rd_T66 l0_2 x5_2).f1.f21) == ((rd_T66 l1_2 x5_2).f1.f21)) || (!(((rd_T66 l0_2 x5_2).f1.f22) == ((rd_T66 l1_2 x5_2).f1.f22)) || (!(((rd_T66 l0_2 x5_2).f1.f23) == ((rd_T66 l1_2 x5_2).f1.f23)) || (!(((rd_T66 l0_2 x5_2).f1.f24) == ((rd_T66 l1_2 x5_2).f1.f24)) || (!(((rd_T66 l0_2 x5_2).f1.f25) == ((rd_T66 l1_2 x5_2).f1.f25)) || (!(((rd_T66 l0_2 x5_2).f1.f26) == ((rd_T66 l1_2 x5_2).f1.f26)) || (!(((rd_T66 l0_2 x5_2).f1.f27) == ((rd_T66 l1_2 x5_2).f1.f27)) || (!(((rd_T66 l0_2 x5_2).f1.f28) == ((rd_T66 l1_2 x5_2).f1.f28)) || (!(((rd_T66 l0_2 x5_2).f1.f29) == ((rd_T66 l1_2 x5_2).f1.f29)) || (!(((rd_T66 l0_2 x5_2).f1.f30) == ((rd_T66 l1_2 x5_2).f1.f30)) || (!(((rd_T66 l0_2 x5_2).f1.f31) == ((rd_T66 l1_2 x5_2).f1.f31)))))))))))))))))))))))))))))))))) || (!(((rd_T66 l0_2 x5_2).f2) == ((rd_T66 l1_2 x5_2).f2))))) = false := by simpa using c22
                    clear c22
                    have H' := Aside0.mk H
                    clear H
                    have hnb26 := NB148_149.out
                    have hnc26 := NB149_148.out
                    have hcz27_0 : wr.cell? ⟨gb148, 0, none⟩ = some (.int .i64 a0_0) := (blk_cell BK148.out 0).trans rfl
                    have hcz27_1 : wr.cell? ⟨gb148, 1, none⟩ = some (.slice A0_1 l0_1.length c0_1) := (blk_cell BK148.out 1).trans rfl
                    have hcz27_2 : wr.cell? ⟨gb148, 2, none⟩ = some (.slice A0_2 l0_2.length c0_2) := (blk_cell BK148.out 2).trans rfl
                    have hfz27_0 := blk_frozen BK148.out 0
                    have hfz27_1 := blk_frozen BK148.out 1
                    have hfz27_2 := blk_frozen BK148.out 2
                    have p151 : 0 ≤ (x5_2 : Int) := of_decide_eq_true (by first | (with_reducible assumption) | assumption)
                    have q151 : x5_2 < (l0_2.length : Int) := of_decide_eq_true (by first | (with_reducible assumption) | assumption)
                    obtain ⟨ad151, e151, hx151_0, hx151_1, hx151_2, hx151_3, hx151_4, hx151_5, hx151_6, hx151_7, hx151_8, hx151_9, hx151_10, hx151_11, hx151_12, hx151_13, hx151_14, hx151_15, hx151_16, hx151_17, hx151_18, hx151_19, hx151_20, hx151_21, hx151_22, hx151_23, hx151_24, hx151_25, hx151_26, hx151_27, hx151_28, hx151_29, hx151_30, hx151_31, hx151_32, hx151_33⟩ := at_T66 HR0_2.out x5_2 p151 q151
                    cases e151
                    replace hx151_0 := (HB.out.cell (World.block_lt_of_cell? w _ hx151_0)).trans hx151_0
                    replace hx151_1 := (HB.out.cell (World.block_lt_of_cell? w _ hx151_1)).trans hx151_1
                    replace hx151_2 := (HB.out.cell (World.block_lt_of_cell? w _ hx151_2)).trans hx151_2
                    replace hx151_3 := (HB.out.cell (World.block_lt_of_cell? w _ hx151_3)).trans hx151_3
                    replace hx151_4 := (HB.out.cell (World.block_lt_of_cell? w _ hx151_4)).trans hx151_4
                    replace hx151_5 := (HB.out.cell (World.block_lt_of_cell? w _ hx151_5)).trans hx151_5
                    replace hx151_6 := (HB.out.cell (World.block_lt_of_cell? w _ hx151_6)).trans hx151_6
                    replace hx151_7 := (HB.out.cell (World.block_lt_of_cell? w _ hx151_7)).trans hx151_7
                    replace hx151_8 := (HB.out.cell (World.block_lt_of_cell? w _ hx151_8)).trans hx151_8
                    replace hx151_9 := (HB.out.cell (World.block_lt_of_cell? w _ hx151_9)).trans hx151_9
                    replace hx151_10 := (HB.out.cell (World.block_lt_of_cell? w _ hx151_10)).trans hx151_10
                    replace hx151_11 := (HB.out.cell (World.block_lt_of_cell? w _ hx151_11)).trans hx151_11
                    replace hx151_12 := (HB.out.cell (World.block_lt_of_cell? w _ hx151_12)).trans hx151_12
                    replace hx151_13 := (HB.out.cell (World.block_lt_of_cell? w _ hx151_13)).trans hx151_13
                    replace hx151_14 := (HB.out.cell (World.block_lt_of_cell? w _ hx151_14)).trans hx151_14
                    replace hx151_15 := (HB.out.cell (World.block_lt_of_cell? w _ hx151_15)).trans hx151_15
                    replace hx151_16 := (HB.out.cell (World.block_lt_of_cell? w _ hx151_16)).trans hx151_16
                    replace hx151_17 := (HB.out.cell (World.block_lt_of_cell? w _ hx151_17)).trans hx151_17
                    replace hx151_18 := (HB.out.cell (World.block_lt_of_cell? w _ hx151_18)).trans hx151_18
                    replace hx151_19 := (HB.out.cell (World.block_lt_of_cell? w _ hx151_19)).trans hx151_19
                    replace hx151_20 := (HB.out.cell (World.block_lt_of_cell? w _ hx151_20)).trans hx151_20
                    replace hx151_21 := (HB.out.cell (World.block_lt_of_cell? w _ hx151_21)).trans hx151_21
                    replace hx151_22 := (HB.out.cell (World.block_lt_of_cell? w _ hx151_22)).trans hx151_22
                    replace hx151_23 := (HB.out.cell (World.block_lt_of_cell? w _ hx151_23)).trans hx151_23
                    replace hx151_24 := (HB.out.cell (World.block_lt_of_cell? w _ hx151_24)).trans hx151_24
                    replace hx151_25 := (HB.out.cell (World.block_lt_of_cell? w _ hx151_25)).trans hx151_25
                    replace hx151_26 := (HB.out.cell (World.block_lt_of_cell? w _ hx151_26)).trans hx151_26
                    replace hx151_27 := (HB.out.cell (World.block_lt_of_cell? w _ hx151_27)).trans hx151_27
                    replace hx151_28 := (HB.out.cell (World.block_lt_of_cell? w _ hx151_28)).trans hx151_28
                    replace hx151_29 := (HB.out.cell (World.block_lt_of_cell? w _ hx151_29)).trans hx151_29
                    replace hx151_30 := (HB.out.cell (World.block_lt_of_cell? w _ hx151_30)).trans hx151_30
                    replace hx151_31 := (HB.out.cell (World.block_lt_of_cell? w _ hx151_31)).trans hx151_31
                    replace hx151_32 := (HB.out.cell (World.block_lt_of_cell? w _ hx151_32)).trans hx151_32
                    replace hx151_33 := (HB.out.cell (World.block_lt_of_cell? w _ hx151_33)).trans hx151_33
                    (first | (obtain ⟨hr151, hrn151⟩ := row66_mk hx151_0 hx151_1 hx151_2 hx151_3 hx151_4 hx151_5 hx151_6 hx151_7 hx151_8 hx151_9 hx151_10 hx151_11 hx151_12 hx151_13 hx151_14 hx151_15 hx151_16 hx151_17 hx151_18 hx151_19 hx151_20 hx151_21 hx151_22 hx151_23 hx151_24 hx151_25 hx151_26 hx151_27 hx151_28 hx151_29 hx151_30 hx151_31 hx151_32 hx151_33; clear hx151_1 hx151_2 hx151_3 hx151_4 hx151_5 hx151_6 hx151_7 hx151_8 hx151_9 hx151_10 hx151_11 hx151_12 hx151_13 hx151_14 hx151_15 hx151_16 hx151_17 hx151_18 hx151_19 hx151_20 hx151_21 hx151_22 hx151_23 hx151_24 hx151_25 hx151_26 hx151_27 hx151_28 hx151_29 hx151_30 hx151_31 hx151_32) | skip)
                    replace p151 := eq_true p151
                    replace q151 := eq_true q151
                    have hcz28_0 : wr.cell? ⟨gb149, 0, none⟩ = some (.int .i64 a1_0) := (blk_cell BK149.out 0).trans rfl
                    have hcz28_1 : wr.cell? ⟨gb149, 1, none⟩ = some (.slice A1_1 l1_1.length c1_1) := (blk_cell BK149.out 1).trans rfl
                    have hcz28_2 : wr.cell? ⟨gb149, 2, none⟩ = some (.slice A1_2 l1_2.length c1_2) := (blk_cell BK149.out 2).trans rfl
                    have hfz28_0 := blk_frozen BK149.out 0
                    have hfz28_1 := blk_frozen BK149.out 1
                    have hfz28_2 := blk_frozen BK149.out 2
                    have p152 : 0 ≤ (x5_2 : Int) := of_decide_eq_true (by first | (with_reducible assumption) | assumption)
                    have q152 : x5_2 < (l1_2.length : Int) := of_decide_eq_true (by first | (with_reducible assumption) | assumption)
                    obtain ⟨ad152, e152, hx152_0, hx152_1, hx152_2, hx152_3, hx152_4, hx152_5, hx152_6, hx152_7, hx152_8, hx152_9, hx152_10, hx152_11, hx152_12, hx152_13, hx152_14, hx152_15, hx152_16, hx152_17, hx152_18, hx152_19, hx152_20, hx152_21, hx152_22, hx152_23, hx152_24, hx152_25, hx152_26, hx152_27, hx152_28, hx152_29, hx152_30, hx152_31, hx152_32, hx152_33⟩ := at_T66 HR1_2.out x5_2 p152 q152
                    cases e152
                    replace hx152_0 := (HB.out.cell (World.block_lt_of_cell? w _ hx152_0)).trans hx152_0
                    replace hx152_1 := (HB.out.cell (World.block_lt_of_cell? w _ hx152_1)).trans hx152_1
                    replace hx152_2 := (HB.out.cell (World.block_lt_of_cell? w _ hx152_2)).trans hx152_2
                    replace hx152_3 := (HB.out.cell (World.block_lt_of_cell? w _ hx152_3)).trans hx152_3
                    replace hx152_4 := (HB.out.cell (World.block_lt_of_cell? w _ hx152_4)).trans hx152_4
                    replace hx152_5 := (HB.out.cell (World.block_lt_of_cell? w _ hx152_5)).trans hx152_5
                    replace hx152_6 := (HB.out.cell (World.block_lt_of_cell? w _ hx152_6)).trans hx152_6
                    replace hx152_7 := (HB.out.cell (World.block_lt_of_cell? w _ hx152_7)).trans hx152_7
                    replace hx152_8 := (HB.out.cell (World.block_lt_of_cell? w _ hx152_8)).trans hx152_8
                    replace hx152_9 := (HB.out.cell (World.block_lt_of_cell? w _ hx152_9)).trans hx152_9
                    replace hx152_10 := (HB.out.cell (World.block_lt_of_cell? w _ hx152_10)).trans hx152_10
                    replace hx152_11 := (HB.out.cell (World.block_lt_of_cell? w _ hx152_11)).trans hx152_11
                    replace hx152_12 := (HB.out.cell (World.block_lt_of_cell? w _ hx152_12)).trans hx152_12
                    replace hx152_13 := (HB.out.cell (World.block_lt_of_cell? w _ hx152_13)).trans hx152_13
                    replace hx152_14 := (HB.out.cell (World.block_lt_of_cell? w _ hx152_14)).trans hx152_14
                    replace hx152_15 := (HB.out.cell (World.block_lt_of_cell? w _ hx152_15)).trans hx152_15
                    replace hx152_16 := (HB.out.cell (World.block_lt_of_cell? w _ hx152_16)).trans hx152_16
                    replace hx152_17 := (HB.out.cell (World.block_lt_of_cell? w _ hx152_17)).trans hx152_17
                    replace hx152_18 := (HB.out.cell (World.block_lt_of_cell? w _ hx152_18)).trans hx152_18
                    replace hx152_19 := (HB.out.cell (World.block_lt_of_cell? w _ hx152_19)).trans hx152_19
                    replace hx152_20 := (HB.out.cell (World.block_lt_of_cell? w _ hx152_20)).trans hx152_20
                    replace hx152_21 := (HB.out.cell (World.block_lt_of_cell? w _ hx152_21)).trans hx152_21
                    replace hx152_22 := (HB.out.cell (World.block_lt_of_cell? w _ hx152_22)).trans hx152_22
                    replace hx152_23 := (HB.out.cell (World.block_lt_of_cell? w _ hx152_23)).trans hx152_23
                    replace hx152_24 := (HB.out.cell (World.block_lt_of_cell? w _ hx152_24)).trans hx152_24
                    replace hx152_25 := (HB.out.cell (World.block_lt_of_cell? w _ hx152_25)).trans hx152_25
                    replace hx152_26 := (HB.out.cell (World.block_lt_of_cell? w _ hx152_26)).trans hx152_26
                    replace hx152_27 := (HB.out.cell (World.block_lt_of_cell? w _ hx152_27)).trans hx152_27
                    replace hx152_28 := (HB.out.cell (World.block_lt_of_cell? w _ hx152_28)).trans hx152_28
                    replace hx152_29 := (HB.out.cell (World.block_lt_of_cell? w _ hx152_29)).trans hx152_29
                    replace hx152_30 := (HB.out.cell (World.block_lt_of_cell? w _ hx152_30)).trans hx152_30
                    replace hx152_31 := (HB.out.cell (World.block_lt_of_cell? w _ hx152_31)).trans hx152_31
                    replace hx152_32 := (HB.out.cell (World.block_lt_of_cell? w _ hx152_32)).trans hx152_32
                    replace hx152_33 := (HB.out.cell (World.block_lt_of_cell? w _ hx152_33)).trans hx152_33
                    (first | (obtain ⟨hr152, hrn152⟩ := row66_mk hx152_0 hx152_1 hx152_2 hx152_3 hx152_4 hx152_5 hx152_6 hx152_7 hx152_8 hx152_9 hx152_10 hx152_11 hx152_12 hx152_13 hx152_14 hx152_15 hx152_16 hx152_17 hx152_18 hx152_19 hx152_20 hx152_21 hx152_22 hx152_23 hx152_24 hx152_25 hx152_26 hx152_27 hx152_28 hx152_29 hx152_30 hx152_31 hx152_32 hx152_33; clear hx152_1 hx152_2 hx152_3 hx152_4 hx152_5 hx152_6 hx152_7 hx152_8 hx152_9 hx152_10 hx152_11 hx152_12 hx152_13 hx152_14 hx152_15 hx152_16 hx152_17 hx152_18 hx152_19 hx152_20 hx152_21 hx152_22 hx152_23 hx152_24 hx152_25 hx152_26 hx152_27 hx152_28 hx152_29 hx152_30 hx152_31 hx152_32) | skip)
                    replace p152 := eq_true p152
                    replace q152 := eq_true q152
                    go_wp2
                    repeat (go_quiet (fail); try go_wp2)
                    go_roundg k2
                    case measure => have := HJ2.out; have := HK2.out; omega
                    case rel => exact ⟨(wrap64 (x5_2 + 1)), (by first | rfl | (simp; done) | (simp [*]; done)), H', ⟨by have := HJ2.out; have := HK2.out; omega⟩, ⟨by (with_reducible repeat (first | refine blk_drewN ?_ _ | refine blk_drew ?_ | refine blk_alloc ?_ _)); exact BK148.out⟩, ⟨by (with_reducible repeat (first | refine blk_drewN ?_ _ | refine blk_drew ?_ | refine blk_alloc ?_ _)); exact BK149.out⟩, ⟨by repeat (first | (with_reducible first | exact HB.out | apply below_alloc | apply pw_below_drewN | apply below_drew1 | refine below_set ?_ GE148.out | refine below_set ?_ GE149.out) | exact HB.out)⟩⟩
                · rw [if_neg c21] at H
                  exact absurd H (by simp)
              · rw [if_neg c20] at H
                exact absurd H (by simp)
            · rw [if_neg c19] at H
              have c19b0 : decide (x5_2 < (l0_2.length : Int)) = false := decide_eq_false c19
              clear c19
              obtain rfl := Option.some.inj H
              have hnb29 := NB148_149.out
              have hnc29 := NB149_148.out
              have hcz30_0 : wr.cell? ⟨gb148, 0, none⟩ = some (.int .i64 a0_0) := (blk_cell BK148.out 0).trans rfl
              have hcz30_1 : wr.cell? ⟨gb148, 1, none⟩ = some (.slice A0_1 l0_1.length c0_1) := (blk_cell BK148.out 1).trans rfl
              have hcz30_2 : wr.cell? ⟨gb148, 2, none⟩ = some (.slice A0_2 l0_2.length c0_2) := (blk_cell BK148.out 2).trans rfl
              have hfz30_0 := blk_frozen BK148.out 0
              have hfz30_1 := blk_frozen BK148.out 1
              have hfz30_2 := blk_frozen BK148.out 2
              go_wp2
              repeat (go_quiet (fail); try go_wp2)
              go_ret
              exact ⟨by first | rfl | (simp [errW_none, errW_some] <;> rfl) | (simp [*, errW_none, errW_some] <;> rfl), by repeat (first | (with_reducible first | exact HB.out | apply below_alloc | apply pw_below_drewN | apply below_drew1 | refine below_set ?_ GE148.out | refine below_set ?_ GE149.out) | exact HB.out)⟩
def retconkit_SameBytes.f (l0 : List Int) (l1 : List Int) : Option (Bool) := some ((strOfNums l0).toList == (strOfNums l1).toList)
set_option maxHeartbeats 8000000 in
set_option maxRecDepth 100000 in
theorem retconkit_SameBytes.calls (A0 : Option Addr) (c0 : Nat) (l0 : List Int) (A1 : Option Addr) (c1 : Nat) (l1 : List Int) (r : Bool) (w : World) (hr0 : Kd.C (Kd.int .u8) w A0 l0.length l0) (hc0 : l0.length ≤ c0) (hr1 : Kd.C (Kd.int .u8) w A1 l1.length l1) (hc1 : l1.length ≤ c1) (h : retconkit_SameBytes.f l0 l1 = some r) :
    Calls Try.prog 19 #[.slice A0 l0.length c0, .slice A1 l1.length c1] w fun e w' => e = .returned (.bool r) ∧ Drawn0 w w' := by
  have HR0 := Aside0.mk hr0
  have HC0 := Aside0.mk hc0
  clear hr0 hc0
  have HR1 := Aside0.mk hr1
  have HC1 := Aside0.mk hc1
  clear hr1 hc1
  have H : (some ((strOfNums l0).toList == (strOfNums l1).toList)) = some r := h
  clear h
  obtain rfl := Option.some.inj H
  have hcv3 := Kd.C_string (P := Try.prog) (A := A0) (c := c0) Try.underlying22 Try.underlying5 Try.underlying9 HR0.out
  have hcv4 := Kd.C_string (P := Try.prog) (A := A1) (c := c1) Try.underlying22 Try.underlying5 Try.underlying9 HR1.out
  go_enter Try.func19, Try.ntmps19
  go_wp2
  go_ret
  exact ⟨by first | rfl | (simp; done) | (simp [*]; done), by repeat (first | exact Drawn0.refl _ | apply Drawn0.step)⟩

-- NOT PRINTED: function 13 (retconkit_KeptBytes)
end Go.Proofs.Ytlgnfbgjdkbfoaa.XH

