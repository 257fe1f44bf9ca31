import Derived.Test.YtbmofcgiokkikaaGreatDoorX17
import Derived.Stop.LaidErr
/- A part of a proof; no law is stated here. -/
noncomputable section
namespace Go.Pe
open Go.Det Go.RowKit
open Go.Proofs Go.Proofs.YtbmofcgiokkikaaGreatDoor
abbrev Agn:List Int:=[1,10,100,1000,10000,100000,1000000,10000000,100000000,1000000000,10000000000,100000000000,1000000000000,10000000000000,100000000000000,1000000000000000,10000000000000000,100000000000000000,1000000000000000000,10000000000000000000]
theorem Adj{W:World}(e:laidMetH Tryz.prog nF W)(j:W.ShapedOpen Tryz.prog):GW W:=by
 rw[MakeChecks.laidMetH_plain _ _ _ ag]at e;have h:=e.tail.tail;have b : Lib.TabIs Tryz.prog W "internal/strconv.uint64pow10" .u64 Agn := Lib.tabIs_of_head (g := 5) (n := 20) ag ag Tryz.underlying325 Tryz.underlying217 ag ag h;unfold Lib.TabIs World.var? at b;have i : Tryz.prog.globalNamed "internal/strconv.uint64pow10" = some 5 := by kernel_rfl
 rw[i]at b;have a:((begin Tryz.prog (fun _ _=>0) default).world.heap[5]?).bind Obj.row?=some ((Agn.map fun _=>Value.int .u64 0).toArray,325):=by kernel_rfl
 obtain⟨cs,f,_,_⟩:=j.1 5 _ 325 (by decide+kernel) a;simp only[Option.bind_some,f]at b;have d:cs=(Agn.map fun z=>Value.int .u64 z).toArray:=Option.some.inj b;intro x c;have c:x=(5,.cells (Aiv [1,10,100,1000,10000,100000,1000000,10000000,100000000,1000000000,10000000000,100000000000,1000000000000,10000000000000,100000000000000,1000000000000000,10000000000000000,100000000000000000,1000000000000000000,10000000000000000000]) 325 (0,20)):=by
  simpa [Hd]using c
 subst c;unfold Si;rw[f,d];rfl
end Go.Pe
