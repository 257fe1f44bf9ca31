import Derived.Test.YtlohiljbghionaaGreatDoorX18
import Derived.Stop.LaidErr
/- A part of a proof; no law is stated here. -/
noncomputable section
namespace Go.Pe
open Go.Det Go.RowKit
open Go.Proofs Go.Proofs.YtlohiljbghionaaGreatDoor
abbrev Aa0:List Int:=[1,10,100,1000,10000,100000,1000000,10000000,100000000,1000000000,10000000000,100000000000,1000000000000,10000000000000,100000000000000,1000000000000000,10000000000000000,100000000000000000,1000000000000000000,10000000000000000000]
theorem AcX{W:World}(e:laidMetH Tryz.prog mK W)(i:W.ShapedOpen Tryz.prog):GW W:=by
 rw[MakeChecks.laidMetH_plain _ _ _ ag]at e;have h:=e.tail.tail;have b : Lib.TabIs Tryz.prog W "internal/strconv.uint64pow10" .u64 Aa0 := Lib.tabIs_of_head (g := 5) (n := 20) ag ag Tryz.underlying320 Tryz.underlying216 ag ag h;unfold Lib.TabIs World.var? at b;have j : Tryz.prog.globalNamed "internal/strconv.uint64pow10" = some 5 := by kernel_rfl
 rw[j]at b;have a:((begin Tryz.prog (fun _ _=>0) default).world.heap[5]?).bind Obj.row?=some ((Aa0.map fun _=>Value.int .u64 0).toArray,320):=by kernel_rfl
 obtain⟨cs,f,_,_⟩:=i.1 5 _ 320 (by decide+kernel) a;simp only[Option.bind_some,f]at b;have c:cs=(Aa0.map fun z=>Value.int .u64 z).toArray:=Option.some.inj b;intro x d;have d:x=(5,.cells (Adm [1,10,100,1000,10000,100000,1000000,10000000,100000000,1000000000,10000000000,100000000000,1000000000000,10000000000000,100000000000000,1000000000000000,10000000000000000,100000000000000000,1000000000000000000,10000000000000000000]) 320 (0,20)):=by
  simpa [Gr]using d
 subst d;unfold OT;rw[f,c];rfl
end Go.Pe
