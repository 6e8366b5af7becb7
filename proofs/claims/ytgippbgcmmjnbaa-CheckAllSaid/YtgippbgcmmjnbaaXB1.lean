-- Printed by xprint.py (a program of this work, over the kit's print.py). Lean checks it.
import Derived.Test.YtgippbgcmmjnbaaXB0
namespace Go.Proofs.Ytgippbgcmmjnbaa.XB
open Go.RowKit Go.Proofs.YtgippbgcmmjnbaaW.PrintWords Go.Proofs.YtgippbgcmmjnbaaW.PrintLast Go.Proofs.YtgippbgcmmjnbaaW.PrintMore
attribute [local go_sem] max2_int min2_int max_two min_two max_three min_three max_four min_four   -- for this text's walks alone
set_option linter.unusedVariables false
set_option linter.unusedSimpArgs false

theorem eqA25 (d : Nat) (w : World) (x0 y0 : Int) (x1 y1 : Int) (x2 y2 : Int) (x3 y3 : Int) (x4 y4 : Int) (x5 y5 : Int) (x6 y6 : Int) (x7 y7 : Int) (x8 y8 : Int) (x9 y9 : Int) (x10 y10 : Int) (x11 y11 : Int) (x12 y12 : Int) (x13 y13 : Int) (x14 y14 : Int) (x15 y15 : Int) (x16 y16 : Int) (x17 y17 : Int) (x18 y18 : Int) (x19 y19 : Int) (x20 y20 : Int) (x21 y21 : Int) (x22 y22 : Int) (x23 y23 : Int) (x24 y24 : Int) (x25 y25 : Int) (x26 y26 : Int) (x27 y27 : Int) (x28 y28 : Int) (x29 y29 : Int) (x30 y30 : Int) (x31 y31 : Int) :
    (Op.equalIn (d + 2) 25 (.agg (.int .u8 x0 :: .int .u8 x1 :: .int .u8 x2 :: .int .u8 x3 :: .int .u8 x4 :: .int .u8 x5 :: .int .u8 x6 :: .int .u8 x7 :: .int .u8 x8 :: .int .u8 x9 :: .int .u8 x10 :: .int .u8 x11 :: .int .u8 x12 :: .int .u8 x13 :: .int .u8 x14 :: .int .u8 x15 :: .int .u8 x16 :: .int .u8 x17 :: .int .u8 x18 :: .int .u8 x19 :: .int .u8 x20 :: .int .u8 x21 :: .int .u8 x22 :: .int .u8 x23 :: .int .u8 x24 :: .int .u8 x25 :: .int .u8 x26 :: .int .u8 x27 :: .int .u8 x28 :: .int .u8 x29 :: .int .u8 x30 :: .int .u8 x31 :: []).toArray) (.agg (.int .u8 y0 :: .int .u8 y1 :: .int .u8 y2 :: .int .u8 y3 :: .int .u8 y4 :: .int .u8 y5 :: .int .u8 y6 :: .int .u8 y7 :: .int .u8 y8 :: .int .u8 y9 :: .int .u8 y10 :: .int .u8 y11 :: .int .u8 y12 :: .int .u8 y13 :: .int .u8 y14 :: .int .u8 y15 :: .int .u8 y16 :: .int .u8 y17 :: .int .u8 y18 :: .int .u8 y19 :: .int .u8 y20 :: .int .u8 y21 :: .int .u8 y22 :: .int .u8 y23 :: .int .u8 y24 :: .int .u8 y25 :: .int .u8 y26 :: .int .u8 y27 :: .int .u8 y28 :: .int .u8 y29 :: .int .u8 y30 :: .int .u8 y31 :: []).toArray)).run Try.prog w = .ok (x0 == y0 && (x1 == y1 && (x2 == y2 && (x3 == y3 && (x4 == y4 && (x5 == y5 && (x6 == y6 && (x7 == y7 && (x8 == y8 && (x9 == y9 && (x10 == y10 && (x11 == y11 && (x12 == y12 && (x13 == y13 && (x14 == y14 && (x15 == y15 && (x16 == y16 && (x17 == y17 && (x18 == y18 && (x19 == y19 && (x20 == y20 && (x21 == y21 && (x22 == y22 && (x23 == y23 && (x24 == y24 && (x25 == y25 && (x26 == y26 && (x27 == y27 && (x28 == y28 && (x29 == y29 && (x30 == y30 && (x31 == y31)))))))))))))))))))))))))))))))) w := by
  refine Go.Proofs.YtgippbgcmmjnbaaXa.eqB_of Try.underlying25 (n := 32) (e := 5) (c := 1) (by kernel_rfl) (by kernel_rfl) (is := (0 :: 1 :: 2 :: 3 :: 4 :: 5 :: 6 :: 7 :: 8 :: 9 :: 10 :: 11 :: 12 :: 13 :: 14 :: 15 :: 16 :: 17 :: 18 :: 19 :: 20 :: 21 :: 22 :: 23 :: 24 :: 25 :: 26 :: 27 :: 28 :: 29 :: 30 :: 31 :: [])) (by decide) ?_
  refine Go.Proofs.YtgippbgcmmjnbaaXa.eqi_cons (by go_simp; rfl) (by go_simp; rfl) (by go_simp) ?_
  refine Go.Proofs.YtgippbgcmmjnbaaXa.eqi_cons (by go_simp; rfl) (by go_simp; rfl) (by go_simp) ?_
  refine Go.Proofs.YtgippbgcmmjnbaaXa.eqi_cons (by go_simp; rfl) (by go_simp; rfl) (by go_simp) ?_
  refine Go.Proofs.YtgippbgcmmjnbaaXa.eqi_cons (by go_simp; rfl) (by go_simp; rfl) (by go_simp) ?_
  refine Go.Proofs.YtgippbgcmmjnbaaXa.eqi_cons (by go_simp; rfl) (by go_simp; rfl) (by go_simp) ?_
  refine Go.Proofs.YtgippbgcmmjnbaaXa.eqi_cons (by go_simp; rfl) (by go_simp; rfl) (by go_simp) ?_
  refine Go.Proofs.YtgippbgcmmjnbaaXa.eqi_cons (by go_simp; rfl) (by go_simp; rfl) (by go_simp) ?_
  refine Go.Proofs.YtgippbgcmmjnbaaXa.eqi_cons (by go_simp; rfl) (by go_simp; rfl) (by go_simp) ?_
  refine Go.Proofs.YtgippbgcmmjnbaaXa.eqi_cons (by go_simp; rfl) (by go_simp; rfl) (by go_simp) ?_
  refine Go.Proofs.YtgippbgcmmjnbaaXa.eqi_cons (by go_simp; rfl) (by go_simp; rfl) (by go_simp) ?_
  refine Go.Proofs.YtgippbgcmmjnbaaXa.eqi_cons (by go_simp; rfl) (by go_simp; rfl) (by go_simp) ?_
  refine Go.Proofs.YtgippbgcmmjnbaaXa.eqi_cons (by go_simp; rfl) (by go_simp; rfl) (by go_simp) ?_
  refine Go.Proofs.YtgippbgcmmjnbaaXa.eqi_cons (by go_simp; rfl) (by go_simp; rfl) (by go_simp) ?_
  refine Go.Proofs.YtgippbgcmmjnbaaXa.eqi_cons (by go_simp; rfl) (by go_simp; rfl) (by go_simp) ?_
  refine Go.Proofs.YtgippbgcmmjnbaaXa.eqi_cons (by go_simp; rfl) (by go_simp; rfl) (by go_simp) ?_
  refine Go.Proofs.YtgippbgcmmjnbaaXa.eqi_cons (by go_simp; rfl) (by go_simp; rfl) (by go_simp) ?_
  refine Go.Proofs.YtgippbgcmmjnbaaXa.eqi_cons (by go_simp; rfl) (by go_simp; rfl) (by go_simp) ?_
  refine Go.Proofs.YtgippbgcmmjnbaaXa.eqi_cons (by go_simp; rfl) (by go_simp; rfl) (by go_simp) ?_
  refine Go.Proofs.YtgippbgcmmjnbaaXa.eqi_cons (by go_simp; rfl) (by go_simp; rfl) (by go_simp) ?_
  refine Go.Proofs.YtgippbgcmmjnbaaXa.eqi_cons (by go_simp; rfl) (by go_simp; rfl) (by go_simp) ?_
  refine Go.Proofs.YtgippbgcmmjnbaaXa.eqi_cons (by go_simp; rfl) (by go_simp; rfl) (by go_simp) ?_
  refine Go.Proofs.YtgippbgcmmjnbaaXa.eqi_cons (by go_simp; rfl) (by go_simp; rfl) (by go_simp) ?_
  refine Go.Proofs.YtgippbgcmmjnbaaXa.eqi_cons (by go_simp; rfl) (by go_simp; rfl) (by go_simp) ?_
  refine Go.Proofs.YtgippbgcmmjnbaaXa.eqi_cons (by go_simp; rfl) (by go_simp; rfl) (by go_simp) ?_
  refine Go.Proofs.YtgippbgcmmjnbaaXa.eqi_cons (by go_simp; rfl) (by go_simp; rfl) (by go_simp) ?_
  refine Go.Proofs.YtgippbgcmmjnbaaXa.eqi_cons (by go_simp; rfl) (by go_simp; rfl) (by go_simp) ?_
  refine Go.Proofs.YtgippbgcmmjnbaaXa.eqi_cons (by go_simp; rfl) (by go_simp; rfl) (by go_simp) ?_
  refine Go.Proofs.YtgippbgcmmjnbaaXa.eqi_cons (by go_simp; rfl) (by go_simp; rfl) (by go_simp) ?_
  refine Go.Proofs.YtgippbgcmmjnbaaXa.eqi_cons (by go_simp; rfl) (by go_simp; rfl) (by go_simp) ?_
  refine Go.Proofs.YtgippbgcmmjnbaaXa.eqi_cons (by go_simp; rfl) (by go_simp; rfl) (by go_simp) ?_
  refine Go.Proofs.YtgippbgcmmjnbaaXa.eqi_cons (by go_simp; rfl) (by go_simp; rfl) (by go_simp) ?_
  exact Go.Proofs.YtgippbgcmmjnbaaXa.eqi_last (by go_simp; rfl) (by go_simp; rfl) (by go_simp)
theorem eqA27 (d : Nat) (w : World) (x0 y0 : Int) (x1 y1 : Int) (x2 y2 : Int) (x3 y3 : Int) (x4 y4 : Int) (x5 y5 : Int) (x6 y6 : Int) (x7 y7 : Int) (x8 y8 : Int) (x9 y9 : Int) (x10 y10 : Int) (x11 y11 : Int) (x12 y12 : Int) (x13 y13 : Int) (x14 y14 : Int) (x15 y15 : Int) (x16 y16 : Int) (x17 y17 : Int) (x18 y18 : Int) (x19 y19 : Int) (x20 y20 : Int) (x21 y21 : Int) (x22 y22 : Int) (x23 y23 : Int) (x24 y24 : Int) (x25 y25 : Int) (x26 y26 : Int) (x27 y27 : Int) (x28 y28 : Int) (x29 y29 : Int) (x30 y30 : Int) (x31 y31 : Int) (x32 y32 : Int) :
    (Op.equalIn (d + 3) 27 (.agg (.int .i64 x0 :: .int .u8 x1 :: .int .u8 x2 :: .int .u8 x3 :: .int .u8 x4 :: .int .u8 x5 :: .int .u8 x6 :: .int .u8 x7 :: .int .u8 x8 :: .int .u8 x9 :: .int .u8 x10 :: .int .u8 x11 :: .int .u8 x12 :: .int .u8 x13 :: .int .u8 x14 :: .int .u8 x15 :: .int .u8 x16 :: .int .u8 x17 :: .int .u8 x18 :: .int .u8 x19 :: .int .u8 x20 :: .int .u8 x21 :: .int .u8 x22 :: .int .u8 x23 :: .int .u8 x24 :: .int .u8 x25 :: .int .u8 x26 :: .int .u8 x27 :: .int .u8 x28 :: .int .u8 x29 :: .int .u8 x30 :: .int .u8 x31 :: .int .u8 x32 :: []).toArray) (.agg (.int .i64 y0 :: .int .u8 y1 :: .int .u8 y2 :: .int .u8 y3 :: .int .u8 y4 :: .int .u8 y5 :: .int .u8 y6 :: .int .u8 y7 :: .int .u8 y8 :: .int .u8 y9 :: .int .u8 y10 :: .int .u8 y11 :: .int .u8 y12 :: .int .u8 y13 :: .int .u8 y14 :: .int .u8 y15 :: .int .u8 y16 :: .int .u8 y17 :: .int .u8 y18 :: .int .u8 y19 :: .int .u8 y20 :: .int .u8 y21 :: .int .u8 y22 :: .int .u8 y23 :: .int .u8 y24 :: .int .u8 y25 :: .int .u8 y26 :: .int .u8 y27 :: .int .u8 y28 :: .int .u8 y29 :: .int .u8 y30 :: .int .u8 y31 :: .int .u8 y32 :: []).toArray)).run Try.prog w = .ok (x0 == y0 && ((x1 == y1 && (x2 == y2 && (x3 == y3 && (x4 == y4 && (x5 == y5 && (x6 == y6 && (x7 == y7 && (x8 == y8 && (x9 == y9 && (x10 == y10 && (x11 == y11 && (x12 == y12 && (x13 == y13 && (x14 == y14 && (x15 == y15 && (x16 == y16 && (x17 == y17 && (x18 == y18 && (x19 == y19 && (x20 == y20 && (x21 == y21 && (x22 == y22 && (x23 == y23 && (x24 == y24 && (x25 == y25 && (x26 == y26 && (x27 == y27 && (x28 == y28 && (x29 == y29 && (x30 == y30 && (x31 == y31 && (x32 == y32)))))))))))))))))))))))))))))))))) w := by
  refine eqA_of Try.underlying27 (by kernel_rfl) ?_
  refine eqf_cons (by rfl) (by go_simp; rfl) (by go_simp; rfl) (by go_simp) ?_
  exact eqf_last (by rfl) (by go_simp) (by go_simp) (eqA25 (d + 0) w _ _ _ _ _ _ _ _ _ _ _ _ _ _ _ _ _ _ _ _ _ _ _ _ _ _ _ _ _ _ _ _ _ _ _ _ _ _ _ _ _ _ _ _ _ _ _ _ _ _ _ _ _ _ _ _ _ _ _ _ _ _ _ _)
end Go.Proofs.Ytgippbgcmmjnbaa.XB
