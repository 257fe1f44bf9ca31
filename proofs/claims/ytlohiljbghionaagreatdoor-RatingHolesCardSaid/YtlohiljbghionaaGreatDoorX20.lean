import Derived.Test.YtlohiljbghionaaGreatDoorX18
import Derived.Stop.LaidErr
/- A part of a proof; no law is stated here. -/
noncomputable section
namespace Go.Pe
open Go.Det Go.RowKit
open Go.Proofs Go.Proofs.YtlohiljbghionaaGreatDoor
abbrev Aby:List Int:=[1,10,100,1000,10000,100000,1000000,10000000,100000000,1000000000,10000000000,100000000000,1000000000000,10000000000000,100000000000000,1000000000000000,10000000000000000,100000000000000000,1000000000000000000,10000000000000000000]
theorem Ac3{W:World}(f:laidMetH Tryz.prog lE W)(j:W.ShapedOpen Tryz.prog):GW W:=by
 rw[MakeChecks.laidMetH_plain _ _ _ ag]at f;have i:=f.tail.tail;have b : Lib.TabIs Tryz.prog W "internal/strconv.uint64pow10" .u64 Aby := Lib.tabIs_of_head (g := 5) (n := 20) ag ag Tryz.underlying320 Tryz.underlying216 ag ag i;unfold Lib.TabIs World.var? at b;have h : Tryz.prog.globalNamed "internal/strconv.uint64pow10" = some 5 := by kernel_rfl
 rw[h]at b;have a:((begin Tryz.prog (fun _ _=>0) default).world.heap[5]?).bind Obj.row?=some ((Aby.map fun _=>Value.int .u64 0).toArray,320):=by kernel_rfl
 obtain⟨cs,e,_,_⟩:=j.1 5 _ 320 (by decide+kernel) a;simp only[Option.bind_some,e]at b;have c:cs=(Aby.map fun z=>Value.int .u64 z).toArray:=Option.some.inj b;intro x d;have d:x=(5,.cells (Aee [1,10,100,1000,10000,100000,1000000,10000000,100000000,1000000000,10000000000,100000000000,1000000000000,10000000000000,100000000000000,1000000000000000,10000000000000000,100000000000000000,1000000000000000000,10000000000000000000]) 320 (0,20)):=by
  simpa [GB]using d
 subst d;unfold PY;rw[e,c];rfl
end Go.Pe
