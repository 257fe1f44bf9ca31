import Derived.Test.YtknhdhchejmpgaaGreatDoorX17
import Derived.Lib.LaidTab
import Derived.Stop.LaidErr
/- A part of a proof (no law is stated here). Made by program out of texts by AI agents. -/
noncomputable section
namespace Go.Pe
open Go.Det Go.RowKit
open Go.Proofs Go.Proofs.YtknhdhchejmpgaaGreatDoor
abbrev uZ:List Int:=[1,10,100,1000,10000,100000,1000000,10000000,100000000,1000000000,10000000000,100000000000,1000000000000,10000000000000,100000000000000,1000000000000000,10000000000000000,100000000000000000,1000000000000000000,10000000000000000000]
theorem xT{W:World}(hl:laidMetH Tryz.prog fG W)(hs:W.ShapedOpen Tryz.prog):GW W:=by
 rw[MakeChecks.laidMetH_plain _ _ _ (by kernel_rfl)]at hl;have h3:=hl.tail.tail;have ht : Lib.TabIs Tryz.prog W "internal/strconv.uint64pow10" .u64 uZ := Lib.tabIs_of_head (g := 3) (n := 20) (by kernel_rfl) (by kernel_rfl) Tryz.underlying317 Tryz.underlying130 (by kernel_rfl) (by kernel_rfl) h3;unfold Lib.TabIs World.var? at ht;have hg : Tryz.prog.globalNamed "internal/strconv.uint64pow10" = some 3 := by kernel_rfl
 rw[hg]at ht;have hrow:((begin Tryz.prog (fun _ _=>0) default).world.heap[3]?).bind Obj.row?=some ((uZ.map fun _=>Value.int .u64 0).toArray,317):=by kernel_rfl
 obtain⟨cs,hc,_,_⟩:=hs.1 3 _ 317 (by decide+kernel) hrow;simp only[Option.bind_some,hc]at ht;have hcs:cs=(uZ.map fun z=>Value.int .u64 z).toArray:=Option.some.inj ht;intro x hx;have hx:x=(3,.cells (zQ [1,10,100,1000,10000,100000,1000000,10000000,100000000,1000000000,10000000000,100000000000,1000000000000,10000000000000,100000000000000,1000000000000000,10000000000000000,100000000000000000,1000000000000000000,10000000000000000000]) 317 (0,20)):=by
  simpa [F4]using hx
 subst hx;unfold Pm;rw[hc,hcs];rfl
end Go.Pe
