import Derived.Test.YtpnjbogpooejhaaWMore
import Derived.Test.YtpnjbogpooejhaaWKept
import Derived.Test.YtpnjbogpooejhaaWNEv
import Derived.Lib.SliceRun
import Derived.StillTailTactics
import Derived.Lib.Overlaps
import Derived.Laws.Externs
namespace Go.Proofs.Ytpnjbogpooejhaa.Xw
open Go.RowKit Go.Proofs.YtpnjbogpooejhaaW.PrintWords Go.Proofs.YtpnjbogpooejhaaW.PrintLast Go.Proofs.YtpnjbogpooejhaaW.PrintMore
set_option linter.unusedVariables false
set_option linter.unusedSimpArgs false
theorem tail_at (g m : Nat) : (some (⟨g, 0, none⟩ : Addr)).map (·.add m) = some ⟨g, m, none⟩ := by simp [add_plain]
section
variable {P : Program} {α : Type}
/-- clear of what lies behind the length of a row of one's own. -/
theorem R_clear_run (d : Kd α) {W : World} (base : Nat) (t ty e : TypeId) (i : TypeInfo) (z : Value) (ht : P.underlying t = some (.slice e)) (hi : P.info? e = some i) (hz : i.zero = some z) (hzs : z.cells.size = d.sz) (hz1 : ∀ u ∈ z.cells.toList, u.oneCell' = true)
    {g n c k : Nat} {xs : List α} {ok : Nat → Prop} (HO : d.R e W base ok (.slice (some ⟨g, 0, none⟩) n c) xs) (hk : n + k ≤ c) {A : Option Addr} (hA : 0 < k → A = (some (⟨g, 0, none⟩ : Addr)).map (·.add (n * d.sz))) (c2 : Nat) :
    ∃ w1, (Builtin.clear_ #[t] ty #[.slice A k c2]).run P W = .ok (.tuple #[]) w1 ∧ d.R e w1 base ok (.slice (some ⟨g, 0, none⟩) n c) xs ∧ W.grownBy w1 (some g) := by
  rcases Nat.eq_zero_or_pos k with h0 | h0
  · subst h0
    refine ⟨W, ?_, HO, ⟨rfl, rfl, rfl, Nat.le_refl _, fun _ _ _ => rfl⟩⟩
    cases A <;> simp [Builtin.clear_, run_underlying ht]
  · rw [hA h0]
    obtain ⟨hn, hnc, _⟩ := Kd.R_reads' HO
    obtain rfl := hn.symm
    obtain ⟨hok, inner, hown, hr⟩ := HO
    rcases hown.2 with ⟨hv, _⟩ | ⟨g', cap', cur, hv, hb, hh, hle, hcm, hcs, htake⟩
    · cases hv
    injection hv with ha _ hc
    injection ha with ha
    injection ha with hg
    subst hg; subst hc
    have hlen : (Builtin.zeroCells z.cells k).size = k * d.sz := by simp [Builtin.zeroCells, hzs]
    have hone : ∀ u ∈ (Builtin.zeroCells z.cells k).toList, u.oneCell' = true := by
      intro u hu
      simp only [Builtin.zeroCells, Array.toList_map, List.mem_map, Array.toList_range, List.mem_range] at hu
      obtain ⟨q, hq, rfl⟩ := hu
      have hzp : 0 < z.cells.size := by
        rcases Nat.eq_zero_or_pos z.cells.size with h | h
        · rw [h, Nat.mul_zero] at hq; omega
        · exact h
      have hlt := Nat.mod_lt q hzp
      apply hz1
      rw [getElem!_pos z.cells (q % z.cells.size) hlt]
      exact Array.getElem_mem_toList hlt
    have hfit : xs.length * d.sz + k * d.sz ≤ cur.size := by
      rw [hcs, ← Nat.add_mul]
      exact Nat.mul_le_mul_right _ hk
    have hrun := run_storeCells_cells (P := P) g (xs.length * d.sz) (Builtin.zeroCells z.cells k).toList 0 W
      (fun j hj => by
        have hj' : j < k * d.sz := by simpa [hlen] using hj
        rw [cell_of_row W g _ cur e (0, 0) hh]
        simp; omega)
      (fun j _ => blk_frozen hh _) hone
    have hadd : (⟨g, 0, none⟩ : Addr).add (xs.length * d.sz) = ⟨g, xs.length * d.sz, none⟩ := by
      unfold Addr.add
      split <;> simp_all
    refine ⟨W.setCells g (xs.length * d.sz) (Builtin.zeroCells z.cells k).toList, ?_, ?_, ?_⟩
    · obtain ⟨k, rfl⟩ : ∃ m, k = m + 1 := ⟨k - 1, by omega⟩
      simp only [Option.map_some, hadd]
      simp [Builtin.clear_, run_underlying ht, zeroValue, typeInfo, hi, hz, Result.andThen] at hrun ⊢
      simp [hrun, Result.andThen]
    · obtain ⟨cur', h3, h4, h5⟩ := setCells_row (e := e) (Builtin.zeroCells z.cells k).toList (xs.length * d.sz) W cur hh (by simpa [hlen] using hfit)
      have hfar : ∀ k', k' ≠ g → (W.setCells g (xs.length * d.sz) (Builtin.zeroCells z.cells k).toList).heap[k']? = W.heap[k']? := fun k' hk' => setCells_far _ _ k' hk'
      refine ⟨hok, inner, ⟨hown.1, .inr ⟨g, c, cur', rfl, hb, h3, hle, hcm, by rw [h4, hcs], ?_⟩⟩, ?_⟩
      · rw [h5]
        rw [List.append_assoc, List.take_append_of_le_length, List.take_take, Nat.min_self]
        · exact htake
        · rw [List.length_take]
          have : cur.toList.length = cur.size := by simp
          omega
      · exact hr.imp_ fun p q hp => d.M_move (fun k' hk' => hfar k' (fun he => hk'.2 (by simp [Value.ownBlock, he]))) hp
    · obtain ⟨s1, s2, s3, s4⟩ := setCells_same g (Builtin.zeroCells z.cells k).toList (xs.length * d.sz) W
      exact ⟨s1, s2, s3, by rw [s4]; exact Nat.le_refl _, fun k' _ hk' => setCells_far _ _ k' (fun he => hk' (by rw [he]))⟩
end
section
variable {P : Program} {ops : Array Oper} {rest : List Oper} {o : Oper} {a : Act} {Q : Exit → Act → World → Prop} {α : Type}
theorem R_clear (d : Kd α) {w0 W : World} (base : Nat) (hgd : o.guard = none) (s : Operand) (t e : TypeId) (z : Value) (by_ : Nat) (ho : o.op = .call { callee := .builtin .clear, args := #[s], argTypes := #[t] })
    (ht : P.underlying t = some (.slice e)) (hinfo : (P.info? e).map (fun i => (i.zero, i.size, i.bytes)) = some (some z, d.sz, by_)) (hzs : z.cells.size = d.sz) (hz1 : ∀ u ∈ z.cells.toList, u.oneCell' = true) {g n c k c2 : Nat} {A : Option Addr} {xs : List α} {ok : Nat → Prop}
    (hs : a.eval s = .slice A k c2) (hA : 0 < k → A = (some (⟨g, 0, none⟩ : Addr)).map (·.add (n * d.sz))) (hk : n + k ≤ c)
    (HO : d.R e W base ok (.slice (some ⟨g, 0, none⟩) n c) xs) (HB : Below base w0 W) (hbase : base ≤ W.heap.size)
    (h : ∀ w1, d.R e w1 base ok (.slice (some ⟨g, 0, none⟩) n c) xs → Below base w0 w1 → W.grownBy w1 (some g) → wpList P ops Q rest (a.put o.dst (.tuple #[])) w1) : wpList P ops Q (o :: rest) a W := by
  obtain ⟨i0, hi, hzz⟩ := Option.map_eq_some_iff.1 hinfo
  simp only [Prod.mk.injEq] at hzz
  obtain ⟨w1, hr, h1, h2⟩ := R_clear_run (P := P) d base t o.type e i0 z ht hi hzz.1 hzs hz1 HO hk hA c2
  refine wpList_plain hgd fun K hK => ?_
  unfold Oper.wp execOp
  simp only [ho, resolve, invoke, builtin, Sem.run_bind, Sem.run_pure, Result.andThen_ok, List.map_toArray, List.map_cons, List.map_nil, hs, hr]
  exact hK _ _ (h w1 h1 (HB.grown h2 hbase (fun k hk => by injection hk with hk; subst hk; exact Kd.R_base HO _ (by simp [Value.ownBlock]))) h2)
end
section
variable {P : Program}
theorem run_copy_cells (W : World) (t1 t2 ty elem : TypeId) (i : TypeInfo) (hu : P.underlying t1 = some (.slice elem)) (hi : P.info? elem = some i)
    (g off dLen dCap : Nat) (ad : Addr) (sLen sCap m : Nat) (hm : Nat.min sLen dLen = m) (news : List Value) (hl : news.length = m * i.size)
    (hsrc : ∀ j u, news[j]? = some u → W.cell? (ad.add j) = some u) (e : TypeId) (cur : Array Value) (hg : W.heap[g]? = some (.cells cur e (0, 0))) (hfit : off + news.length ≤ cur.size) (h1 : ∀ u ∈ news, u.oneCell' = true) :
    (Builtin.copy_ #[t1, t2] ty #[.slice (some ⟨g, off, none⟩) dLen dCap, .slice (some ad) sLen sCap]).run P W = .ok (.int .i64 m) (W.setCells g off news) := by
  have hst := run_storeCells_cells (P := P) g off news 0 W (fun j hj => by rw [cell_of_row W g _ cur e (0, 0) hg]; simp; omega) (fun j _ => blk_frozen hg _) h1
  simp only [Nat.add_zero] at hst
  have hfc := run_firstCells_some (P := P) W i.size m ad sLen sCap news hl hsrc
  simp [Builtin.copy_, run_underlying hu, sizeOf, typeInfo, hi, Builtin.lenOf, hm, hfc, Result.andThen, hst, goInt]
/-- append(s[:i], make([]T, k)...) where it must grow. -/
theorem run_zeros_grow (w : World) (t ti ty e : TypeId) (i : TypeInfo) (z : Value) (ht : P.underlying t = some (.slice e)) {k : IntKind} (hti : P.underlying ti = some (.int k)) (hi : P.info? e = some i) (hz : i.zero = some z)
    (hzs : z.cells.size = i.size) (hsz : 0 < i.size) (hb0 : 0 < i.bytes) (A : Option Addr) (n c : Nat) (xs : List Value) (hxl : xs.length = n * i.size) (hold : (Builtin.firstCells i.size n (.slice A n c)).run P w.drew = .ok xs.toArray w.drew) (kx : IntKind) (m : Nat) (hm0 : 0 < m)
    (hbytes : (n + m) * i.bytes ≤ 140737488355328) (hgrow : c < n + m) :
    (Builtin.append_ #[t, ti] ty #[.slice A n c, .int kx m]).run P w =
      .ok (.slice (some ⟨w.heap.size, 0, none⟩) (n + m) (grownCap w (n + m) c e)) (w.drew.alloc (.cells (xs.toArray ++ Builtin.zeroCells z.cells m ++ Builtin.zeroCells z.cells (grownCap w (n + m) c e - (n + m))) e)) := by
  have hle : n + m ≤ 140737488355328 := Nat.le_trans (Nat.le_mul_of_pos_right _ hb0) hbytes
  have hw : IntKind.i64.wrap (m : Int) = m := by rw [IntKind.wrap_i64]; omega
  have hneg : ¬ ((m : Int) < 0) := by omega
  have hmb : m * i.bytes ≤ 140737488355328 := Nat.le_trans (Nat.mul_le_mul_right _ (Nat.le_add_left m n)) hbytes
  have hbig : ¬ (281474976710656 < (m : Int) * (i.bytes : Int)) := by
    rw [← Int.natCast_mul]
    omega
  have hn : ¬ (n + m ≤ c) := by omega
  have h63' : ¬ (9223372036854775807 < ((n : Int) + (m : Int))) := by omega
  have hfit := growslice_fits hgrow hbytes
  have h48' : ¬ (281474976710656 < Builtin.nextslicecap (n + m) c * i.bytes) := by omega
  have hmz : ¬ (m * i.size = 0) := Nat.mul_ne_zero (by omega) (by omega)
  simp [Builtin.append_, run_underlying ht, run_underlying hti, sizeOf, typeInfo, zeroValue, hi, hz, asInt, asIntOf, hw, hneg, hbig, hn, h63', h48', Question.forced, hold, newRow, grownCap, hmz]
end
section
variable {P : Program} {ops : Array Oper} {rest : List Oper} {o : Oper} {a : Act} {Q : Exit → Act → World → Prop}
theorem copy_cells {W : World} (hgd : o.guard = none) (d s : Operand) (t1 t2 elem : TypeId) (sz : Nat) (ho : o.op = .call { callee := .builtin .copy, args := #[d, s], argTypes := #[t1, t2] })
    (hu : P.underlying t1 = some (.slice elem)) (hsz : (P.info? elem).map (·.size) = some sz) {g off dLen dCap : Nat} {ad : Addr} {sLen sCap m : Nat} {D : Option Addr} {A : Option Addr} (hd : a.eval d = .slice D dLen dCap) (hs : a.eval s = .slice A sLen sCap)
    (hm : Nat.min sLen dLen = m) (news : List Value) (hD : D = some ⟨g, off, none⟩) (hA : A = some ad) (hl : news.length = m * sz) (hsrc : ∀ j u, news[j]? = some u → W.cell? (ad.add j) = some u) (e : TypeId) (cur : Array Value) (hg : W.heap[g]? = some (.cells cur e (0, 0))) (hfit : off + news.length ≤ cur.size) (h1 : ∀ u ∈ news, u.oneCell' = true)
    (h : ∀ w1 cur1, w1.heap[g]? = some (.cells cur1 e (0, 0)) → cur1.size = cur.size → cur1.toList = cur.toList.take off ++ news ++ cur.toList.drop (off + news.length) → W.grownBy w1 (some g) → wpList P ops Q rest (a.put o.dst (.int .i64 m)) w1) : wpList P ops Q (o :: rest) a W := by
  obtain ⟨i0, hi, hzz⟩ := Option.map_eq_some_iff.1 hsz
  subst hzz hD hA
  have hr := run_copy_cells (P := P) W t1 t2 o.type elem i0 hu hi g off dLen dCap ad sLen sCap m hm news hl hsrc e cur hg hfit h1
  obtain ⟨cur', h3, h4, h5⟩ := setCells_row news off W cur hg hfit
  obtain ⟨s1, s2, s3, s4⟩ := setCells_same g news off W
  refine wpList_plain hgd fun K hK => ?_
  unfold Oper.wp execOp
  simp only [ho, resolve, invoke, builtin, Sem.run_bind, Sem.run_pure, Result.andThen_ok, List.map_toArray, List.map_cons, List.map_nil, hd, hs, hr]
  exact hK _ _ (h _ cur' h3 h4 h5 ⟨s1, s2, s3, by rw [s4]; exact Nat.le_refl _, fun k' _ hk' => setCells_far news _ k' (fun he => hk' (by rw [he]))⟩)
theorem zeros_grow {W : World} (hgd : o.guard = none) (s x : Operand) (t ti e : TypeId) (z : Value) (sz bytes : Nat) (ho : o.op = .call { callee := .builtin .append, args := #[s, x], argTypes := #[t, ti] })
    (ht : P.underlying t = some (.slice e)) {k : IntKind} (hti : P.underlying ti = some (.int k)) (hinfo : (P.info? e).map (fun i => (i.zero, i.size, i.bytes)) = some (some z, sz, bytes)) (hzs : z.cells.size = sz) (hz1 : ∀ u ∈ z.cells.toList, u.oneCell' = true) (hsz : 0 < sz) (hb0 : 0 < bytes)
    {ad : Addr} {n c m : Nat} {kx : IntKind} {A : Option Addr} {x' : Int} (hs : a.eval s = .slice A n c) (hA : A = some ad) (hx : a.eval x = .int kx x') (hx' : x' = (m : Int)) (xs : List Value) (hxl : xs.length = n * sz) (hsrc : ∀ j u, xs[j]? = some u → W.cell? (ad.add j) = some u)
    (hm0 : 0 < m) (hbytes : (n + m) * bytes ≤ 140737488355328) (hgrow : c < n + m)
    (h : ∀ w1 cap1 cur1, w1.heap[W.heap.size]? = some (.cells cur1 e (0, 0)) → cur1.size = cap1 * sz → n + m ≤ cap1 → cap1 ≤ maxLen → cur1.toList.take (n * sz) = xs → W.grownBy w1 none → W.heap.size < w1.heap.size → wpList P ops Q rest (a.put o.dst (.slice (some ⟨W.heap.size, 0, none⟩) (n + m) cap1)) w1) : wpList P ops Q (o :: rest) a W := by
  obtain ⟨i0, hi, hzz⟩ := Option.map_eq_some_iff.1 hinfo
  simp only [Prod.mk.injEq] at hzz
  obtain ⟨hz0, rfl, rfl⟩ := hzz
  subst hx' hA
  have hle : n + m ≤ 140737488355328 := Nat.le_trans (Nat.le_mul_of_pos_right _ hb0) hbytes
  have hold := run_firstCells_some (P := P) W.drew i0.size n ad n c xs hxl (by simpa using hsrc)
  have hr := run_zeros_grow (P := P) W t ti o.type e i0 z ht hti hi hz0 hzs hsz hb0 (some ad) n c xs hxl hold kx m hm0 hbytes hgrow
  have hge := grownCap_ge W (n + m) c e
  have hcm : grownCap W (n + m) c e ≤ maxLen := grownCap_le_maxLen W (n + m) c e (by simp only [maxLen]; omega)
  refine wpList_plain hgd fun K hK => ?_
  unfold Oper.wp execOp
  simp only [ho, resolve, invoke, builtin, Sem.run_bind, Sem.run_pure, Result.andThen_ok, List.map_toArray, List.map_cons, List.map_nil, hs, hx, hr]
  refine hK _ _ (h _ _ _ (heap_alloc_new W.drew _) ?_ hge hcm ?_ ⟨rfl, rfl, rfl, by simp, fun k hk _ => heap_alloc_old W.drew _ hk⟩ (by simp))
  · simp only [Array.size_append, List.size_toArray, size_zeroCells, hzs, hxl, ← Nat.add_mul]
    congr 1
    omega
  · simp only [Array.toList_append, List.append_assoc]
    exact List.take_left' hxl
end
section
variable {P : Program}
theorem append_types {t tx ty e e' : TypeId} (ht : P.underlying t = some (.slice e)) (hx : P.underlying tx = some (.slice e')) (B A : Option Addr) (n c m c2 : Nat) (W : World) :
    (Builtin.append_ #[t, tx] ty #[.slice B n c, .slice A m c2]).run P W = (Builtin.append_ #[t, t] ty #[.slice B n c, .slice A m c2]).run P W := by
  simp [Builtin.append_, run_underlying ht, run_underlying hx]
end
section
variable {P : Program} {ops : Array Oper} {rest : List Oper} {o : Oper} {a : Act} {Q : Exit → Act → World → Prop} {α : Type}
/-- append(v, ys...): the two slice types may differ; the elements hold no rows. -/
theorem append_rows2 (d : Kd α) (hKM : ∀ {W W' base ok x cs}, d.K W x cs → d.M W' base ok x cs) {w0 W : World} (base : Nat) (hgd : o.guard = none) (s x : Operand) (t tx e e' : TypeId) (z : Value) (bytes : Nat)
    (ho : o.op = .call { callee := .builtin .append, args := #[s, x], argTypes := #[t, tx] })
    (ht : P.underlying t = some (.slice e)) (htx : P.underlying tx = some (.slice e')) (hinfo : (P.info? e).map (fun i => (i.zero, i.size, i.bytes)) = some (some z, d.sz, bytes)) (hz : z.cells.size = d.sz) (hs0 : 0 < d.sz) (hb0 : 0 < bytes)
    (v : Value) (xs ys : List α) (A : Option Addr) (m c : Nat) (ok : Nat → Prop) (hs : a.eval s = v) (hx : a.eval x = .slice A m c)
    (HO : d.R e W base ok v xs) (HR : d.C W A m ys) (hfresh : ∀ k, W.heap.size ≤ k → ok k)
    (HB : Below base w0 W) (hbase : base ≤ W.heap.size) (hl : (xs.length + m) * bytes ≤ 140737488355328)
    (h : ∀ v1 w1, d.R e w1 base ok v1 (xs ++ ys) → Below base w0 w1 → W.grownBy w1 v.ownBlock → wpList P ops Q rest (a.put o.dst v1) w1) :
    wpList P ops Q (o :: rest) a W := by
  obtain ⟨i0, hi, hzz⟩ := Option.map_eq_some_iff.1 hinfo
  simp only [Prod.mk.injEq] at hzz
  obtain ⟨hz0, hz1, hz2⟩ := hzz
  have hm : ys.length = m := HR.1
  have hlen : xs.length + m ≤ 140737488355328 := Nat.le_trans (Nat.le_mul_of_pos_right _ hb0) hl
  obtain ⟨hok, inner, hown, hr⟩ := HO
  have go : ∀ v1 w1, (Builtin.append_ #[t, tx] o.type #[v, .slice A m c]).run P W = .ok v1 w1 → d.R e w1 base ok v1 (xs ++ ys) → W.grownBy w1 v.ownBlock → wpList P ops Q (o :: rest) a W := by
    intro v1 w1 hr1 h1 hg
    refine wpList_plain hgd fun K hK => ?_
    unfold Oper.wp execOp
    simp only [ho, resolve, invoke, builtin, Sem.run_bind, Sem.run_pure, Result.andThen_ok, List.map_toArray, List.map_cons, List.map_nil, hs, hx, hr1]
    exact hK _ _ (h v1 w1 h1 (HB.grown hg hbase (own_base hown)) hg)
  rcases A with _ | ad
  · have h0 : m = 0 := by
      rcases Nat.eq_zero_or_pos m with h0 | h0
      · exact h0
      · obtain ⟨ad, h, _⟩ := HR.2.2 h0
        cases h
    subst h0
    obtain rfl : ys = [] := List.eq_nil_of_length_eq_zero hm
    refine go v W ?_ (by rw [List.append_nil]; exact ⟨hok, inner, hown, hr⟩) (World.grownBy.refl W _)
    rcases hown.2 with ⟨rfl, hn⟩ | ⟨g, cap, cur, rfl, _, _, hnc, _⟩
    · simp [Builtin.append_, run_underlying ht, run_underlying htx, sizeOf, typeInfo, hi, Builtin.lenOf, Builtin.firstCells]
    · simp [Builtin.append_, run_underlying ht, run_underlying htx, sizeOf, typeInfo, hi, Builtin.lenOf, Builtin.firstCells, hnc, storeCells]
  · obtain ⟨news, hnr, hnc⟩ := ReadsRow.inner_ HR
    have hone : ∀ u ∈ news, u.oneCell' = true := by
      intro u hu
      obtain ⟨q, hq, rfl⟩ := List.mem_iff_getElem.1 hu
      have hql : q / d.sz < ys.length := by
        rw [Nat.div_lt_iff_lt_mul hs0, ← hnr.1]
        exact hq
      refine d.K_one (hnr.2 (q / d.sz) _ (List.getElem?_eq_getElem hql)) _ ?_
      rw [List.mem_iff_getElem?]
      exact ⟨q % d.sz, by rw [List.getElem?_take, if_pos (Nat.mod_lt _ hs0), List.getElem?_drop, Nat.mul_comm, Nat.div_add_mod, List.getElem?_eq_getElem hq]⟩
    obtain ⟨v1, w1, hrun, h2, hg, _, hat⟩ := run_append_own_at (P := P) W base t o.type e i0 z d.sz bytes ht hi hz0 hz1 hz2 hz hs0 v xs.length inner hown ad m c news (by rw [hnr.1, hm]) hnc hone (by simp only [maxLen]; omega) hl hbase
    refine go v1 w1 (by obtain ⟨B, c3, rfl⟩ := own_slice hown; rw [append_types ht htx]; exact hrun) ⟨fun k hk => ?_, inner ++ news, by rw [List.length_append, hm]; exact h2, ?_⟩ hg
    · rcases hat with hat | hat
      · exact hok k (hat ▸ hk)
      · rw [hat] at hk
        injection hk with hk
        exact hfresh k (by omega)
    · exact Kd.reps_append (hr.imp_ (fun _ _ hq => hKM (d.K_of_M hq))) (hnr.imp_ (fun _ _ hq => hKM hq))
end
theorem apart_of {α : Type} {d : Kd α} {w : World} {S : Nat → Prop} {ad : Addr} {n : Nat} {ys : List α} (hr : ∀ W_, Kept w W_ S → d.C W_ (some ad) n ys) (hn : 0 < n) (hsz : 0 < d.sz) : ¬ S ad.block := by
  intro hS
  have hk : Kept w { w with heap := w.heap.setIfInBounds ad.block (.map #[] 0) } S := by
    refine ⟨by simp, fun i hi hne => ?_⟩
    have : ad.block ≠ i := fun he => hne (he ▸ hS)
    simp [Array.getElem?_setIfInBounds_ne this]
  have hC := hr _ hk
  obtain ⟨a, he, hc⟩ := hC.2.2 hn
  injection he with he
  subst he
  obtain ⟨y, hy⟩ : ∃ y, ys[0]? = some y := by
    have := hC.1
    exact ⟨_, List.getElem?_eq_getElem (by omega)⟩
  obtain ⟨c, hl, _, hcell⟩ := hc 0 y hy
  obtain ⟨u, hu⟩ : ∃ u, c[0]? = some u := ⟨_, List.getElem?_eq_getElem (by omega)⟩
  have h1 := hcell 0 u hu
  have h2 : (ad.add (0 * d.sz + 0)) = ad := by simp [Addr.add]
  rw [h2] at h1
  have h0 := (hr w (Kept.refl w S)).2.2 hn
  obtain ⟨a', he', hc'⟩ := h0
  injection he' with he'
  subst he'
  obtain ⟨c', hl', _, hcell'⟩ := hc' 0 y hy
  obtain ⟨u', hu'⟩ : ∃ u, c'[0]? = some u := ⟨_, List.getElem?_eq_getElem (by omega)⟩
  have h3 := hcell' 0 u' hu'
  rw [h2] at h3
  have hlt := World.block_lt_of_cell? w ad h3
  simp [World.cell?, hlt] at h1
theorem one_of_reps {α : Type} (d : Kd α) {w : World} {ys : List α} {news : List Value} (hs0 : 0 < d.sz) (hnr : Reps (d.K w) d.sz ys news) : ∀ u ∈ news, u.oneCell' = true := by
  intro u hu
  obtain ⟨q, hq, rfl⟩ := List.mem_iff_getElem.1 hu
  have hql : q / d.sz < ys.length := by
    rw [Nat.div_lt_iff_lt_mul hs0, ← hnr.1]
    exact hq
  refine d.K_one (hnr.2 (q / d.sz) _ (List.getElem?_eq_getElem hql)) _ ?_
  rw [List.mem_iff_getElem?]
  exact ⟨q % d.sz, by rw [List.getElem?_take, if_pos (Nat.mod_lt _ hs0), List.getElem?_drop, Nat.mul_comm, Nat.div_add_mod, List.getElem?_eq_getElem hq]⟩
theorem insert_R {α : Type} (d : Kd α) (hKM : ∀ {W W' base ok x cs}, d.K W x cs → d.M W' base ok x cs) {w w' : World} {base e g c i : Nat} {ok : Nat → Prop} {l0 l2 : List α} {inner news : List Value} (hin : Reps (d.K w) d.sz l0 inner) (hnr : Reps (d.K w) d.sz l2 news) (hi : i ≤ l0.length)
    (hb : base ≤ g) {cur : Array Value} (hh : w'.heap[g]? = some (.cells cur e (0, 0))) (hle : l0.length + l2.length ≤ c) (hcm : c ≤ maxLen) (hcs : cur.size = c * d.sz)
    (hcur : cur.toList.take ((l0.length + l2.length) * d.sz) = inner.take (i * d.sz) ++ (news ++ inner.drop (i * d.sz))) (hok : ok g) :
    d.R e w' base ok (.slice (some ⟨g, 0, none⟩) (l0.length + l2.length) c) (l0.take i ++ (l2 ++ l0.drop i)) := by
  have hl : (l0.take i ++ (l2 ++ l0.drop i)).length = l0.length + l2.length := by simp; omega
  have hil : i * d.sz ≤ l0.length * d.sz := Nat.mul_le_mul_right _ hi
  refine ⟨fun k hk => ?_, inner.take (i * d.sz) ++ (news ++ inner.drop (i * d.sz)), ⟨?_, .inr ⟨g, c, cur, by rw [hl], hb, hh, by rw [hl]; exact hle, hcm, hcs, by rw [hl]; exact hcur⟩⟩, ?_⟩
  · have : g = k := by simpa [Value.ownBlock] using hk
    subst this
    exact hok
  · have h1 := hin.1
    have h2 := hnr.1
    rw [hl, List.length_append, List.length_append, List.length_take, List.length_drop, h1, h2, Nat.add_mul]
    omega
  · exact (Kd.reps_append (Kd.reps_take hin hi) (Kd.reps_append hnr (Kd.reps_drop hin))).imp_ (fun _ _ h => hKM h)
theorem add_block (a : Addr) (j : Nat) : (a.add j).block = a.block := by
  unfold Addr.add
  split <;> rfl
theorem spliced {β : Type} (inner news cur : List β) (i n m sz : Nat) (hi : i ≤ n) (h1 : inner.length = n * sz) (h2 : news.length = m * sz) (hc : (n + m) * sz ≤ cur.length) (ht : cur.take (i * sz) = inner.take (i * sz)) :
    ((cur.take (i * sz) ++ news ++ cur.drop (i * sz + news.length)).take ((i + m) * sz) ++ inner.drop (i * sz) ++ (cur.take (i * sz) ++ news ++ cur.drop (i * sz + news.length)).drop ((i + m) * sz + (inner.drop (i * sz)).length)).take ((n + m) * sz) =
      inner.take (i * sz) ++ (news ++ inner.drop (i * sz)) := by
  have hil : i * sz ≤ n * sz := Nat.mul_le_mul_right _ hi
  have e1 : (i + m) * sz = i * sz + m * sz := Nat.add_mul _ _ _
  have e2 : (n + m) * sz = n * sz + m * sz := Nat.add_mul _ _ _
  have l1 : (cur.take (i * sz)).length = i * sz := by rw [List.length_take]; omega
  have l2 : (cur.take (i * sz) ++ news).length = (i + m) * sz := by rw [List.length_append, l1, h2, e1]
  have l3 : (cur.take (i * sz) ++ news ++ inner.drop (i * sz)).length = (n + m) * sz := by rw [List.length_append, l2, List.length_drop, h1, e1, e2]; omega
  rw [List.take_left' l2, List.take_left' l3, ht, List.append_assoc]
theorem overlaps_apart {P : Program} (w : World) (tS tR e : TypeId) (ht : P.underlying tS = some (.slice e)) (size : Nat) (hz : (P.info? e).map (·.size) = some size)
    (a b : Addr) (la ca lb cb : Nat) (hne : a.block ≠ b.block) (tA tB : TypeId) (kA kB : Nat)
    (hsa : w.shape? a.block = some (tA, kA)) (hsb : w.shape? b.block = some (tB, kB)) (hkA : kA ≠ 0)
    (hfb : ∀ off, w.frozen? ⟨b.block, off, b.spot⟩ = false) (hfe : w.frozen? { block := b.block, off := kB } = false) :
    (Extern.SlicesOverlaps.overlaps #[tS, tS] #[tR] #[.slice (some a) la ca, .slice (some b) lb cb]).run P w = .ok (.bool false) w := by
  have hnb : (a.block != b.block) = true := by simpa using hne
  have hnb' : (a.block == b.block) = false := by simpa using hne
  have hfb' : w.frozen? b = false := hfb b.off
  obtain ⟨i0, hi, hzz⟩ := Option.map_eq_some_iff.1 hz
  have hz' : ∀ w, (Go.sizeOf e).run P w = .ok size w := fun w => by simp [sizeOf, typeInfo, hi, hzz]
  change Sem.run P (α := Value) (do
    let some t := (#[tS, tS] : Array TypeId)[0]? | stuck "slices.overlaps: no parameter types"
    let .slice elem ← underlying t | stuck "slices.overlaps: slice type expected"
    let size ← sizeOf elem
    match (some a : Option Addr), (some b : Option Addr) with
    | some a, some b =>
      if la = 0 ∨ lb = 0 ∨ size = 0 then pure (Value.bool false)
      else if a.block != b.block && (← frozen a) && (← frozen b) then unsupported .addressObserved
      else do
        if a.block != b.block then do
          noView a; noView b
          if ← mayBeOne a b then return Value.bool ((← choose (.extern "sameAddr.stringBytes" 2)) == 1)
        pure (Value.bool (a.block == b.block && a.off < b.off + lb * size && b.off < a.off + la * size))
    | _, _ => pure (Value.bool false)) w = _
  by_cases h0 : la = 0 ∨ lb = 0 ∨ size = 0
  · simp [run_underlying ht, hz', h0]
  · cases kA with
    | zero => exact absurd rfl hkA
    | succ kA =>
      simp [run_underlying ht, hz', h0, hnb, hnb', frozen, noView, viewAt, mayBeOne, stringish, shape, Sem.run, hsa, hsb, hfb', hfe]
theorem spliced2 {β : Type} (inner news cur : List β) (i n m sz : Nat) (hi : i ≤ n) (h1 : inner.length = n * sz) (h2 : news.length = m * sz) (hc : (n + m) * sz ≤ cur.length) (ht : cur.take (n * sz) = inner) :
    ((cur.take ((i + m) * sz) ++ inner.drop (i * sz) ++ cur.drop ((i + m) * sz + (inner.drop (i * sz)).length)).take (i * sz) ++ news ++ (cur.take ((i + m) * sz) ++ inner.drop (i * sz) ++ cur.drop ((i + m) * sz + (inner.drop (i * sz)).length)).drop (i * sz + news.length)).take ((n + m) * sz) =
      inner.take (i * sz) ++ (news ++ inner.drop (i * sz)) := by
  have hil : i * sz ≤ n * sz := Nat.mul_le_mul_right _ hi
  have e1 : (i + m) * sz = i * sz + m * sz := Nat.add_mul _ _ _
  have e2 : (n + m) * sz = n * sz + m * sz := Nat.add_mul _ _ _
  have l1 : (cur.take ((i + m) * sz)).length = i * sz + news.length := by rw [List.length_take, h2, e1]; omega
  have a1 : (cur.take ((i + m) * sz) ++ inner.drop (i * sz) ++ cur.drop ((i + m) * sz + (inner.drop (i * sz)).length)).take (i * sz) = inner.take (i * sz) := by
    rw [List.append_assoc, List.take_append_of_le_length (by omega), List.take_take, Nat.min_eq_left (by omega), ← ht, List.take_take, Nat.min_eq_left hil]
  have a2 : (cur.take ((i + m) * sz) ++ inner.drop (i * sz) ++ cur.drop ((i + m) * sz + (inner.drop (i * sz)).length)).drop (i * sz + news.length) = inner.drop (i * sz) ++ cur.drop ((i + m) * sz + (inner.drop (i * sz)).length) := by
    rw [List.append_assoc, ← l1, List.drop_left]
  rw [a1, a2, ← List.append_assoc (inner.take (i * sz) ++ news)]
  rw [List.take_left' (by rw [List.length_append, List.length_append, List.length_take, List.length_drop, h1, h2, e2]; omega), List.append_assoc]
theorem shape_of_cell {w : World} {a : Addr} {u : Value} (h : w.cell? a = some u) : ∃ cs t f, w.heap[a.block]? = some (.cells cs t f) ∧ 0 < cs.size := by
  unfold World.cell? at h
  split at h
  · rename_i c t f hb
    refine ⟨c, t, f, hb, ?_⟩
    split at h
    · cases h
    · have := (Array.getElem?_eq_some_iff.1 h).1
      omega
  · cases h
end Go.Proofs.Ytpnjbogpooejhaa.Xw
