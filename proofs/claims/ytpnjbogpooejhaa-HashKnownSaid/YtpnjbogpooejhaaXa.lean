import Derived.Test.YtpnjbogpooejhaaWEqStruct
import Derived.ChangeKeysEq
import Derived.Deep.MidRow
import Derived.Deep.WholeRow
/-! '==' of arrays, item by item: for the walks that xprint prints. -/
namespace Go.Proofs.YtpnjbogpooejhaaXa
variable {P : Program} {w : World} {d : Nat} {e : TypeId} {c : Nat} {xs ys : Array Value} {is : List Nat} {a b : Value} {r s : Bool} {i : Nat}
theorem eqi_cons (ha : (part e xs (i * c)).run P w = .ok a w) (hb : (part e ys (i * c)).run P w = .ok b w) (he : (Op.equalIn d e a b).run P w = .ok r w) (hr : (Op.eqItems d e c xs ys is).run P w = .ok s w) :
    (Op.eqItems d e c xs ys (i :: is)).run P w = .ok (r && s) w := by
  simp only [Op.eqItems, Sem.run_bind, ha, hb, he, Result.andThen_ok]
  cases r
  · simp
  · simpa using hr
theorem eqi_last (ha : (part e xs (i * c)).run P w = .ok a w) (hb : (part e ys (i * c)).run P w = .ok b w) (he : (Op.equalIn d e a b).run P w = .ok r w) : (Op.eqItems d e c xs ys [i]).run P w = .ok r w := by
  simp only [Op.eqItems, Sem.run_bind, ha, hb, he, Result.andThen_ok]
  cases r <;> simp
theorem eqB_of {t : TypeId} {n : Nat} (hu : P.underlying t = some (.array n e)) (hi : (P.info? e).isSome = true) (hc : P.cellsOf e = c) (hr : List.range n = is)
    (h : (Op.eqItems d e c xs ys is).run P w = .ok r w) : (Op.equalIn (d + 1) t (.agg xs) (.agg ys)).run P w = .ok r w := by
  obtain ⟨i, hi⟩ := Option.isSome_iff_exists.mp hi
  rw [run_equalIn_array w d xs ys hu hi, hc, hr]
  exact h
/-- A whole load, out of its cells. -/
theorem ldrow {P : Program} {W : World} {a : Addr} {t : TypeId} {cs : List Value} {d : TypeDesc} (h : ∀ j v, cs[j]? = some v → W.cell? (a.add j) = some v) (hu : P.underlying t = some d) (hd : d.isRow = true) (hi : (P.info? t).map (·.size) = some cs.length) :
    (Instr.loadAt t (.pointer (some a))).run P W = .ok (.agg cs.toArray) W := by
  have hl := run_loadCells_list (P := P) W a cs h
  cases hq : P.info? t with
  | none => simp [hq] at hi
  | some i =>
    have hs : i.size = cs.length := by simpa [hq] using hi
    have hagg : (isAgg t).run P W = .ok true W := by
      unfold isAgg
      rw [Sem.run_bind, run_underlying hu W]
      cases d <;> simp_all
    simp [Instr.loadAt, Instr.sureAddr, loadVar, Sem.run_bind, hagg, sizeOf, typeInfo, hq, hs, hl]
/-- Cells one behind the other, as one conjunction. -/
def Cells (W : World) (p : Addr) : Nat → List Value → Prop
  | _, [] => True
  | o, c :: cs => W.cell? (p.add o) = some c ∧ Cells W p (o + 1) cs
theorem cells_get (W : World) (p : Addr) : ∀ (cs : List Value) (o : Nat), Cells W p o cs → ∀ (j : Nat) (v : Value), cs[j]? = some v → W.cell? (p.add (o + j)) = some v
  | [], _, _, j, v, h => by simp at h
  | c :: cs, o, hc, 0, v, h => by
    simp at h
    subst h
    exact hc.1
  | c :: cs, o, hc, j + 1, v, h => by
    have := cells_get W p cs (o + 1) hc.2 j v (by simpa using h)
    rwa [show o + 1 + j = o + (j + 1) by omega] at this
theorem all_cells (W : World) (p : Addr) (cs : List Value) (h : Cells W p 0 cs) (j : Nat) (v : Value) (hv : cs[j]? = some v) : W.cell? (p.add j) = some v := by
  have := cells_get W p cs 0 h j v hv
  rwa [Nat.zero_add] at this
end Go.Proofs.YtpnjbogpooejhaaXa
