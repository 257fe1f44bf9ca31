import Derived.Test.YtnbinppdjnlhpaaGreatDoorX05
/- A part of a proof (no law is stated here). Made by program out of texts by AI agents. -/
namespace Go.Det
noncomputable section
open Go.Proofs.Tryz (prog)
noncomputable def N9(n:Int):V:=.agg [.int .i64 n,.nils,.int .i64 1,.nils]
noncomputable def M7:K5:=[(136,[.str [53]],.int .i64 0),(136,[.str [50,48]],.int .i64 0),(136,[.str [51]],.int .i64 0),
 (137,[.str [53]],N9 5),(137,[.str [50,48]],N9 20),(137,[.str [51]],N9 3),
 (138,[N9 5,N9 (-10)],.int .i64 1),(138,[N9 5,N9 54],.int .i64 (-1)),(138,[N9 20,N9 (-10)],.int .i64 1),(138,[N9 20,N9 54],.int .i64 (-1)),(138,[N9 3,N9 (-10)],.int .i64 1),(138,[N9 3,N9 54],.int .i64 (-1)),
 (138,[N9 3,N9 5],.int .i64 (-1)),(138,[N9 5,N9 3],.int .i64 1),(138,[N9 5,N9 5],.int .i64 0)]
theorem mK:Fh C7 1000 M7=true:=by kernel_rfl
def oR:Ctx:=NP C7 M7
theorem jI:oR.Ok prog:=RV dN Mw SH rfl mK
noncomputable def A7:K5:=[(17,[],.bool true)]
theorem gZ:Fh oR 1000 A7=true:=by kernel_rfl
end
end Go.Det
