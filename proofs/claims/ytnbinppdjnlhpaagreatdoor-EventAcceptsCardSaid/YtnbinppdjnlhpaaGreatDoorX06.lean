import Derived.Test.YtnbinppdjnlhpaaGreatDoorX05
/- A part of a proof (no law is stated here). Made by program out of texts by AI agents. -/
namespace Go.Det
noncomputable section
open Go.Proofs.Tryz (prog)
noncomputable def NK(n:Int):V:=.agg [.int .i64 n,.nils,.int .i64 1,.nils]
noncomputable def M7:KJ:=[(136,[.str [53]],.int .i64 0),(136,[.str [50,48]],.int .i64 0),(136,[.str [51]],.int .i64 0),
 (137,[.str [53]],NK 5),(137,[.str [50,48]],NK 20),(137,[.str [51]],NK 3),
 (138,[NK 5,NK (-10)],.int .i64 1),(138,[NK 5,NK 54],.int .i64 (-1)),(138,[NK 20,NK (-10)],.int .i64 1),(138,[NK 20,NK 54],.int .i64 (-1)),(138,[NK 3,NK (-10)],.int .i64 1),(138,[NK 3,NK 54],.int .i64 (-1)),
 (138,[NK 3,NK 5],.int .i64 (-1)),(138,[NK 5,NK 3],.int .i64 1),(138,[NK 5,NK 5],.int .i64 0)]
theorem iR:E1 C7 1000 M7=true:=by kernel_rfl
def kO:Ctx:=Lj C7 M7
theorem eB:kO.Ok prog:=Re cI LV SM rfl iR
noncomputable def A7:KJ:=[(17,[],.bool true)]
theorem dT:E1 kO 1000 A7=true:=by kernel_rfl
end
end Go.Det
