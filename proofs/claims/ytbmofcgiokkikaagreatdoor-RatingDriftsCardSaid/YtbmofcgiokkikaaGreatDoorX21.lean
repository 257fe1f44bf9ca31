import Derived.Test.YtbmofcgiokkikaaGreatDoorX19
import Derived.Stop.LaidErr
/- A part of a proof; no law is stated here. -/
noncomputable section
namespace Go.Pe
open Go.Det Go.RowKit
open Go.Proofs Go.Proofs.YtbmofcgiokkikaaGreatDoor
abbrev AeC:List Int:=[1,10,100,1000,10000,100000,1000000,10000000,100000000,1000000000,10000000000,100000000000,1000000000000,10000000000000,100000000000000,1000000000000000,10000000000000000,100000000000000000,1000000000000000000,10000000000000000000]
theorem Agw{W:World}(e:laidMetH Tryz.prog sK W)(h:W.ShapedOpen Tryz.prog):GW W:=by
 rw[MakeChecks.laidMetH_plain _ _ _ ag]at e;have j:=e.tail.tail;have b : Lib.TabIs Tryz.prog W "internal/strconv.uint64pow10" .u64 AeC := Lib.tabIs_of_head (g := 5) (n := 20) ag ag Tryz.underlying325 Tryz.underlying217 ag ag j;unfold Lib.TabIs World.var? at b;have i : Tryz.prog.globalNamed "internal/strconv.uint64pow10" = some 5 := by kernel_rfl
 rw[i]at b;have a:((begin Tryz.prog (fun _ _=>0) default).world.heap[5]?).bind Obj.row?=some ((AeC.map fun _=>Value.int .u64 0).toArray,325):=by kernel_rfl
 obtain⟨cs,f,_,_⟩:=h.1 5 _ 325 (by decide+kernel) a;simp only[Option.bind_some,f]at b;have c:cs=(AeC.map fun z=>Value.int .u64 z).toArray:=Option.some.inj b;intro x d;have d:x=(5,.cells (Ahu [1,10,100,1000,10000,100000,1000000,10000000,100000000,1000000000,10000000000,100000000000,1000000000000,10000000000000,100000000000000,1000000000000000,10000000000000000,100000000000000000,1000000000000000000,10000000000000000000]) 325 (0,20)):=by
  simpa [FI]using d
 subst d;unfold NX;rw[f,c];rfl
end Go.Pe
