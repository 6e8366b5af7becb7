import Derived.Test.YtpnjbogpooejhaaK1
import Derived.Test.YtpnjbogpooejhaaXHgR
namespace Go.Proofs.Ytpnjbogpooejhaa.H
open Go.RowKit Go.Proofs.Ytpnjbogpooejhaa.XH Go.Proofs.YtpnjbogpooejhaaW.PrintWords Go.Proofs.YtpnjbogpooejhaaW.PrintLast Go.Proofs.YtpnjbogpooejhaaW.PrintMore Go.Proofs.YtpnjbogpooejhaaXe Go.Proofs.YtpnjbogpooejhaaXs
set_option linter.unusedVariables false
set_option linter.unusedSimpArgs false
attribute [local go_sem ↓] Go.wp_at_zero Go.wp_at_succ
attribute [local go_sem] valUpon
attribute [local go_sem ↓ high] bn23
attribute [local go_sem high] BN23.run
theorem results_cells2 {P : Program} {fn : Func} {p p2 : Tmp} {ty ty2 : TypeId} (h : fn.results = #[.cell p ty, .cell p2 ty2]) (tmps : Array Value) (w : World) {g g2 : Nat} {t t2 : TypeId} {cs cs2 : Array Value} {fr fr2 : Nat × Nat} {d d2 : TypeDesc}
    (hp : tmps.getD p undef = .pointer (some ⟨g, 0, none⟩)) (hg : w.heap[g]? = some (.cells cs t fr)) (hu : P.underlying ty = some d) (hd : (match d with | .struct _ | .array _ _ => true | _ => false) = true) (hi : (P.info? ty).map (·.size) = some cs.size)
    (hp2 : tmps.getD p2 undef = .pointer (some ⟨g2, 0, none⟩)) (hg2 : w.heap[g2]? = some (.cells cs2 t2 fr2)) (hu2 : P.underlying ty2 = some d2) (hd2 : (match d2 with | .struct _ | .array _ _ => true | _ => false) = true) (hi2 : (P.info? ty2).map (·.size) = some cs2.size) :
    (results fn tmps).run P w = .ok (.tuple #[.agg cs, .agg cs2]) w := by
  have hp' : tmps[p]?.getD undef = .pointer (some ⟨g, 0, none⟩) := by simpa using hp
  have hp2' : tmps[p2]?.getD undef = .pointer (some ⟨g2, 0, none⟩) := by simpa using hp2
  simp [results, h, hp', hp2', asAddr, run_loadVar_row w g t ty cs fr d hg hu hd hi, run_loadVar_row w g2 t2 ty2 cs2 fr2 d2 hg2 hu2 hd2 hi2]
/-- which digit a byte is; 16: none -/
def plI (c : Int) : Int := if 48 ≤ c ∧ c ≤ 57 then c - 48 else if 97 ≤ c ∧ c ≤ 102 then c - 87 else 16
theorem plI_range (c : Int) : 0 ≤ plI c ∧ plI c ≤ 16 := by unfold plI; split <;> (try split) <;> omega
/-- the ID that i digits tell -/
def pidI (s : ByteArray) : Nat → List Int
  | 0 => List.replicate 32 0
  | i + 1 => if i < 64 then (pidI s i).set (i / 2) ((rd (pidI s i) ((i / 2 : Nat) : Int) * 16 + plI (bt s i)) % 256) else pidI s i
theorem pidI_len (s : ByteArray) : ∀ i, (pidI s i).length = 32
  | 0 => by simp [pidI]
  | i + 1 => by
    have := pidI_len s i
    unfold pidI; split
    · rw [List.length_set]; exact this
    · exact this
theorem pidI_byte (s : ByteArray) : ∀ i, ∀ x ∈ pidI s i, 0 ≤ x ∧ x < 256
  | 0 => by intro x hx; simp [pidI] at hx; omega
  | i + 1 => by
    intro x hx
    unfold pidI at hx; split at hx
    · rcases List.mem_or_eq_of_mem_set hx with h | h
      · exact pidI_byte s i x h
      · subst h; omega
    · exact pidI_byte s i x hx
structure Par where
  (id : List Int) (err at_ : Int)
def z32 : List Int := List.replicate 32 0
/-- what a text is from its byte i on -/
def parGo (s : ByteArray) : Nat → Nat → Par
  | 0, i => if s.size = 64 then ⟨pidI s i, 0, 0⟩ else ⟨z32, 4, min s.size 64⟩
  | k + 1, i => if plI (bt s i) = 16 then ⟨z32, 4, i⟩ else parGo s k (i + 1)
def parS (s : ByteArray) : Par := parGo s s.size 0
theorem parGo_len (s : ByteArray) : ∀ k i, (parGo s k i).id.length = 32
  | 0, i => by unfold parGo; split <;> simp [pidI_len, z32]
  | k + 1, i => by unfold parGo; split; · simp [z32]
                   · exact parGo_len s k _
theorem parS_len (s : ByteArray) : (parS s).id.length = 32 := parGo_len s _ _
theorem ix_pl (c : Int) (h0 : 0 ≤ c) (h1 : c ≤ 255) : Lib.indexByte DG.data.toList c.toNat.toUInt8 = if plI c = 16 then -1 else plI c := by
  have : ∀ k : Fin 256, Lib.indexByte DG.data.toList (k.val).toUInt8 = if plI (k.val : Int) = 16 then -1 else plI (k.val : Int) := by decide +kernel
  have hk := this ⟨c.toNat, by omega⟩
  simpa [show ((c.toNat : Nat) : Int) = c by omega] using hk
theorem place_pl (c : Int) (h0 : 0 ≤ c) (h1 : c ≤ 255) : retconref02_place.f 20 c = some (plI c) := by
  have : ∀ k : Fin 256, retconref02_place.f 20 (k.val : Int) = some (plI (k.val : Int)) := by decide +kernel
  have hk := this ⟨c.toNat, by omega⟩
  simpa [show ((c.toNat : Nat) : Int) = c by omega] using hk
set_option maxHeartbeats 8000000 in
set_option maxRecDepth 100000 in
theorem c_ixb0 (s : ByteArray) (c : Int) (w : World) : Calls Try.prog 37 #[.string s, .int .u8 c] w fun e w' => e = .returned (.int .i64 (Lib.indexByte s.data.toList c.toNat.toUInt8)) ∧ w' = w := by
  go_enter Try.func37, Try.ntmps37
  go_wp2
  rw [run_callFunc_extern Try.func45 (by kernel_rfl) (by kernel_rfl) (by kernel_rfl) (e := Extern.BytealgIndexByte.indexByte) (by kernel_rfl), Lib.run_indexByteString]
  simp only [Result.andThen]
  rw [Oper.upon_value]
  go_wp2
  go_ret
  exact ⟨rfl, rfl⟩
set_option maxHeartbeats 8000000 in
set_option maxRecDepth 100000 in
theorem c_ixb (s : ByteArray) (c : Int) (w : World) : Calls Try.prog 28 #[.string s, .int .u8 c] w fun e w' => e = .returned (.int .i64 (Lib.indexByte s.data.toList c.toNat.toUInt8)) ∧ w' = w := by
  go_enter Try.func28, Try.ntmps28
  go_wp2_with (go_at_call 37; refine (c_ixb0 s c _).mono ?_; rintro e w_ ⟨rfl, rfl⟩)
  go_ret
  exact ⟨rfl, rfl⟩
end Go.Proofs.Ytpnjbogpooejhaa.H
