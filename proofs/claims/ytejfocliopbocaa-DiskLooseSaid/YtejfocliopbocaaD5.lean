import Derived.Test.YtejfocliopbocaaD4
namespace Go.Proofs.Ytejfocliopbocaa.D
open Go.RowKit Go.Proofs.Ytejfocliopbocaa.XD Go.Proofs.YtejfocliopbocaaW.PrintWords Go.Proofs.YtejfocliopbocaaW.PrintLast Go.Proofs.YtejfocliopbocaaW.PrintMore Go.Proofs.YtejfocliopbocaaXe Go.Proofs.YtejfocliopbocaaXs
set_option linter.unusedVariables false
set_option linter.unusedSimpArgs false
theorem results_two_tmps {P : Program} {fn : Func} {p p2 : Tmp} (h : fn.results = #[.tmp p, .tmp p2]) (tmps : Array Value) (w : World) {v v2 : Value} (hp : tmps.getD p undef = v) (hp2 : tmps.getD p2 undef = v2) : (results fn tmps).run P w = .ok (.tuple #[v, v2]) w := by
  have hp' : tmps[p]?.getD undef = v := by simpa using hp
  have hp2' : tmps[p2]?.getD undef = v2 := by simpa using hp2
  simp [results, h, hp', hp2']
set_option maxHeartbeats 8000000 in
set_option maxRecDepth 100000 in
theorem c_new (n : Int) (h0 : 0 ≤ n) (h1 : n ≤ 65536) (w : World) :
    Calls Try.prog 9 #[.int .i64 n] w fun e w' => ∃ g gm, e = .returned (.tuple #[.pointer (some ⟨g, 0, none⟩), .int .i64 0]) ∧ Hp w w' [.blk g (.cells (dC 0 (-1) false true n gm (.slice none 0 0)).toArray 63 (0, 0)), .blk gm (.map (rawM []) 0)] := by
  have HP := Aside0.mk ((Hp.start w).alloc (.map (rawM []) 0))
  have d1 : decide (n < 0) = false := decide_eq_false (by omega)
  have d2 : decide (65536 < n) = false := decide_eq_false (by omega)
  clear h0 h1
  go_enter Try.func9, Try.ntmps9
  have hmk : (Instr.makeMap 60 none).run Try.prog w = .ok (.map (some w.heap.size)) (w.alloc (.map (rawM []) 0)) := by simp [Instr.makeMap, rawM, Result.andThen]
  go_wp2_with (first | ((with_reducible refine gate_dst (N := 12) rfl ?_); refine ev_run rfl (show _ = Result.ok (Next.value _) _ from by go_simp; rw [hmk]; rfl) ?_))
  refine bodyPost_ret (results_two_tmps rfl _ _ rfl rfl) rfl ?_
  have h := HP.out.alloc (.cells (dC 0 (-1) false true n w.heap.size (.slice none 0 0)).toArray 63 (0, 0))
  rw [show (w.alloc (.map (rawM []) 0)).heap.size = w.heap.size + 1 by simp] at h
  exact ⟨_, _, rfl, h⟩
end Go.Proofs.Ytejfocliopbocaa.D
