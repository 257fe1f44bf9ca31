import Derived.Test.YtjbmodoofdpgcabGreatDoorX04
import Derived.Test.YtjbmodoofdpgcabGreatDoorX05
/- A part of a proof; no law is stated here. -/
noncomputable section
namespace Go.Det
section
open Go.Proofs.Tryz (prog)
def H8(n:Int):V:=.agg [.int .i64 n,.nils,.int .i64 1,.nils]
def M7:G6:=[(69,[.str [53]],.int .i64 0),(69,[.str [50,48]],.int .i64 0),(69,[.str [51]],.int .i64 0),
 (70,[.str [53]],H8 5),(70,[.str [50,48]],H8 20),(70,[.str [51]],H8 3),
 (71,[H8 5,H8<| -10],.int .i64 1),(71,[H8 5,H8 54],.int .i64<| -1),(71,[H8 20,H8<| -10],.int .i64 1),(71,[H8 20,H8 54],.int .i64<| -1),(71,[H8 3,H8<| -10],.int .i64 1),(71,[H8 3,H8 54],.int .i64<| -1),
 (71,[H8 3,H8 5],.int .i64<| -1),(71,[H8 5,H8 3],.int .i64 1),(71,[H8 5,H8 5],.int .i64 0)]
theorem Tw:CB C7 1000 M7=true:=by kernel_rfl
theorem U0:HR prog (IV C7 1000 M7):=Oe Oj G1 Mm Tw
def UA:Ctx:=O2 C7<|IV C7 1000 M7
theorem Th:UA.Ok prog:=PL Oj U0
theorem NP:CZ UA:=J8 G1 _
end
end Go.Det
