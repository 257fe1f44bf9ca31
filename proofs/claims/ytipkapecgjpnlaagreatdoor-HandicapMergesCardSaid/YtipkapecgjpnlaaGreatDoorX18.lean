import Derived.Test.YtipkapecgjpnlaaGreatDoorX16
import Derived.Stop.LaidErr
/- A part of a proof; no law is stated here. -/
noncomputable section
namespace Go.Pe
open Go.Det Go.RowKit
open Go.Proofs Go.Proofs.YtipkapecgjpnlaaGreatDoor
abbrev vZ:List Int:=[1,10,100,1000,10000,100000,1000000,10000000,100000000,1000000000,10000000000,100000000000,1000000000000,10000000000000,100000000000000,1000000000000000,10000000000000000,100000000000000000,1000000000000000000,10000000000000000000]
theorem tD{W:World}(e:laidMetH Tryz.prog fM W)(h:W.ShapedOpen Tryz.prog):GW W:=by
 rw[MakeChecks.laidMetH_plain _ _ _ ag]at e;have j:=e.tail.tail;have b : Lib.TabIs Tryz.prog W "internal/strconv.uint64pow10" .u64 vZ := Lib.tabIs_of_head (g := 3) (n := 20) ag ag Tryz.underlying334 Tryz.underlying206 ag ag j;unfold Lib.TabIs World.var? at b;have i : Tryz.prog.globalNamed "internal/strconv.uint64pow10" = some 3 := by kernel_rfl
 rw[i]at b;have a:((begin Tryz.prog (fun _ _=>0) default).world.heap[3]?).bind Obj.row?=some ((vZ.map fun _=>Value.int .u64 0).toArray,334):=by kernel_rfl
 obtain⟨cs,f,_,_⟩:=h.1 3 _ 334 (by decide+kernel) a;simp only[Option.bind_some,f]at b;have d:cs=(vZ.map fun z=>Value.int .u64 z).toArray:=Option.some.inj b;intro x c;have c:x=(3,.cells (Aa9 [1,10,100,1000,10000,100000,1000000,10000000,100000000,1000000000,10000000000,100000000000,1000000000000,10000000000000,100000000000000,1000000000000000,10000000000000000,100000000000000000,1000000000000000000,10000000000000000000]) 334 (0,20)):=by
  simpa [C5]using c
 subst c;unfold Nd;rw[f,d];rfl
end Go.Pe
