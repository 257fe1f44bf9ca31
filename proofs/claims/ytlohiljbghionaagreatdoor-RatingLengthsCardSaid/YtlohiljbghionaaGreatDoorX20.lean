import Derived.Test.YtlohiljbghionaaGreatDoorX18
import Derived.Lib.LaidTab
import Derived.Stop.LaidErr
/- A part of a proof (no law is stated here). Made by program out of texts by AI agents. -/
noncomputable section
namespace Go.Pe
open Go.Det Go.RowKit
open Go.Proofs Go.Proofs.YtlohiljbghionaaGreatDoor
abbrev AbI:List Int:=[1,10,100,1000,10000,100000,1000000,10000000,100000000,1000000000,10000000000,100000000000,1000000000000,10000000000000,100000000000000,1000000000000000,10000000000000000,100000000000000000,1000000000000000000,10000000000000000000]
theorem AcA{W:World}(f:laidMetH Tryz.prog jB W)(i:W.ShapedOpen Tryz.prog):GW W:=by
 rw[MakeChecks.laidMetH_plain _ _ _ (by kernel_rfl)]at f;have h:=f.tail.tail;have b : Lib.TabIs Tryz.prog W "internal/strconv.uint64pow10" .u64 AbI := Lib.tabIs_of_head (g := 5) (n := 20) (by kernel_rfl) (by kernel_rfl) Tryz.underlying320 Tryz.underlying216 (by kernel_rfl) (by kernel_rfl) h;unfold Lib.TabIs World.var? at b;have j : Tryz.prog.globalNamed "internal/strconv.uint64pow10" = some 5 := by kernel_rfl
 rw[j]at b;have a:((begin Tryz.prog (fun _ _=>0) default).world.heap[5]?).bind Obj.row?=some ((AbI.map fun _=>Value.int .u64 0).toArray,320):=by kernel_rfl
 obtain⟨cs,e,_,_⟩:=i.1 5 _ 320 (by decide+kernel) a;simp only[Option.bind_some,e]at b;have d:cs=(AbI.map fun z=>Value.int .u64 z).toArray:=Option.some.inj b;intro x c;have c:x=(5,.cells (Adf [1,10,100,1000,10000,100000,1000000,10000000,100000000,1000000000,10000000000,100000000000,1000000000000,10000000000000,100000000000000,1000000000000000,10000000000000000,100000000000000000,1000000000000000000,10000000000000000000]) 320 (0,20)):=by
  simpa [GC]using c
 subst c;unfold Pm;rw[e,d];rfl
end Go.Pe
