import Derived.Test.YtmcnicakonagdaaGreatDoorX17
import Derived.Lib.LaidTab
import Derived.Stop.LaidErr
/- A part of a proof (no law is stated here). Made by program out of texts by AI agents. -/
noncomputable section
namespace Go.Pe
open Go.Det Go.RowKit
open Go.Proofs Go.Proofs.YtmcnicakonagdaaGreatDoor
abbrev uT:List Int:=[1,10,100,1000,10000,100000,1000000,10000000,100000000,1000000000,10000000000,100000000000,1000000000000,10000000000000,100000000000000,1000000000000000,10000000000000000,100000000000000000,1000000000000000000,10000000000000000000]
theorem Aaa{W:World}(hl:laidMetH Tryz.prog fC W)(hs:W.ShapedOpen Tryz.prog):GW W:=by
 rw[MakeChecks.laidMetH_plain _ _ _ (by kernel_rfl)]at hl;have h3:=hl.tail.tail;have ht : Lib.TabIs Tryz.prog W "internal/strconv.uint64pow10" .u64 uT := Lib.tabIs_of_head (g := 5) (n := 20) (by kernel_rfl) (by kernel_rfl) Tryz.underlying322 Tryz.underlying215 (by kernel_rfl) (by kernel_rfl) h3;unfold Lib.TabIs World.var? at ht;have hg : Tryz.prog.globalNamed "internal/strconv.uint64pow10" = some 5 := by kernel_rfl
 rw[hg]at ht;have hrow:((begin Tryz.prog (fun _ _=>0) default).world.heap[5]?).bind Obj.row?=some ((uT.map fun _=>Value.int .u64 0).toArray,322):=by kernel_rfl
 obtain⟨cs,hc,_,_⟩:=hs.1 5 _ 322 (by decide+kernel) hrow;simp only[Option.bind_some,hc]at ht;have hcs:cs=(uT.map fun z=>Value.int .u64 z).toArray:=Option.some.inj ht;intro x hx;have hx:x=(5,.cells (Aaw [1,10,100,1000,10000,100000,1000000,10000000,100000000,1000000000,10000000000,100000000000,1000000000000,10000000000000,100000000000000,1000000000000000,10000000000000000,100000000000000000,1000000000000000000,10000000000000000000]) 322 (0,20)):=by
  simpa [Ga]using hx
 subst hx;unfold Pm;rw[hc,hcs];rfl
end Go.Pe
