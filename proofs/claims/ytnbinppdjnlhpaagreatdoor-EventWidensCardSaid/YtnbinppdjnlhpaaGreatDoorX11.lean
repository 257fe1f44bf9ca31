import Derived.Test.YtnbinppdjnlhpaaGreatDoorX10
/- A part of the proofs of the laws of one chapter (no law is stated here). Made by program out of texts by AI agents. -/
section
namespace Go.Det
noncomputable section
open Go.Proofs.Tryz (prog)
noncomputable def fr7 (n : Int) : V := .agg [.int .i64 n, .nils, .int .i64 1, .nils]
noncomputable def M7 : Memo := [(136, [.str [53]], .int .i64 0), (136, [.str [50, 48]], .int .i64 0), (136, [.str [51]], .int .i64 0),
  (137, [.str [53]], fr7 5), (137, [.str [50, 48]], fr7 20), (137, [.str [51]], fr7 3),
  (138, [fr7 5, fr7 (-10)], .int .i64 1), (138, [fr7 5, fr7 54], .int .i64 (-1)), (138, [fr7 20, fr7 (-10)], .int .i64 1), (138, [fr7 20, fr7 54], .int .i64 (-1)), (138, [fr7 3, fr7 (-10)], .int .i64 1), (138, [fr7 3, fr7 54], .int .i64 (-1)),
  (138, [fr7 3, fr7 5], .int .i64 (-1)), (138, [fr7 5, fr7 3], .int .i64 1), (138, [fr7 5, fr7 5], .int .i64 0)]
theorem memo7 : memoAll C7 1000 M7 = true := by kernel_rfl
def C7m : Ctx := withMemo C7 M7
theorem C7m_ok : C7m.Ok prog := withMemo_ok C7_ok C7_certs mixed7 rfl memo7
noncomputable def A7 : Memo := [(17, [], .bool true)]
theorem awake7 : memoAll C7m 1000 A7 = true := by kernel_rfl
end
end Go.Det
end
