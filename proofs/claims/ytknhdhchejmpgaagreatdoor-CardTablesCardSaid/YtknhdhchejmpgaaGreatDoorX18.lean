import Derived.Test.YtknhdhchejmpgaaGreatDoorX16
import Derived.Lib.LaidTab
import Derived.Stop.LaidErr
import Derived.Test.YtknhdhchejmpgaaGreatDoorX15
import Derived.ChangeShapes
import Derived.OpenShut
/- A part of a proof (no law is stated here). Made by program out of texts by AI agents. -/
open List renaming map_cons → zc
open Go.Value renaming okWide → zd
section
namespace Go.Pe
open Go.Det Go.RowKit
open Go.Proofs Go.Proofs.YtknhdhchejmpgaaGreatDoor
noncomputable section
abbrev qM:List Int:=[1,10,100,1000,10000,100000,1000000,10000000,100000000,1000000000,10000000000,100000000000,1000000000000,10000000000000,100000000000000,1000000000000000,10000000000000000,100000000000000000,1000000000000000000,10000000000000000000]
theorem tM{W:World}(hl:laidMetH Tryz.prog Zv W)(hs:W.ShapedOpen Tryz.prog):GW W:=by
 rw[MakeChecks.laidMetH_plain _ _ _ (by kernel_rfl)]at hl;have h3:=hl.tail.tail;have ht : Lib.TabIs Tryz.prog W "internal/strconv.uint64pow10" .u64 qM := Lib.tabIs_of_head (g := 3) (n := 20) (by kernel_rfl) (by kernel_rfl) Tryz.underlying317 Tryz.underlying130 (by kernel_rfl) (by kernel_rfl) h3;unfold Lib.TabIs World.var? at ht;have hg : Tryz.prog.globalNamed "internal/strconv.uint64pow10" = some 3 := by kernel_rfl
 rw[hg]at ht;have hrow:((begin Tryz.prog (fun _ _=>0) default).world.heap[3]?).bind Obj.row?=some ((qM.map fun _=>Value.int .u64 0).toArray,317):=by kernel_rfl
 obtain⟨cs,hc,_,_⟩:=hs.1 3 _ 317 (by decide+kernel) hrow;simp only[Option.bind_some,hc]at ht;have hcs:cs=(qM.map fun z=>Value.int .u64 z).toArray:=Option.some.inj ht;intro x hx;have hx:x=(3,.cells (sA [1,10,100,1000,10000,100000,1000000,10000000,100000000,1000000000,10000000000,100000000000,1000000000000,10000000000000,100000000000000,1000000000000000,10000000000000000,100000000000000000,1000000000000000000,10000000000000000000]) 317 (0,20)):=by
  simpa [Ft]using hx
 subst hx;unfold Oe;rw[hc,hcs];rfl
end
end Go.Pe
end
section
namespace Go.Pe
open Go.Det Go.RowKit Go.ChangeShapes
noncomputable section
def Pf(k:Nat):Value→V
 | .agg cs=>.agg (cs.toList.map (MT k))
 |v=>MT k v
def eH(P:Program)(k:Nat)(t:TypeId):Option Sh:=
 match rT P k t with
 |some s=>match P.underlying t with
  |some (.struct _)=>bif s.O9 then some s else none
  |some (.int _)|some .bool|some .string|some (.slice _)=>bif s.O9 then none else some s
  |_=>none
 |none=>none
def QY(P:Program)(k:Nat):List TypeId→Option (List Sh)
 |[]=>some []
 |t::ts=>match eH P k t,QY P k ts with
  |some s,some ss=>some (s::ss)
  |_,_=>none
def wX:(l:List Sh)→(BA l).T→Prop
 |[],_=>True
 |[a],x=>Tp a x
 |a::b::l,x=>Tp a x.1∧wX (b::l) x.2
section
variable {H:Type}{enc:TypeId×Value→H}{P:Program}{W:World}{base:Nat}
theorem one_cell{t:TypeId}{v:Value}(ht:(∃k,P.underlying t=some (.int k))∨P.underlying t=some .bool∨P.underlying t=some .string∨∃e,P.underlying t=some (.slice e))(h:zd P W .any base t v):v.cells.toList=[v]∧∀cs,v≠ .agg cs:=by
 rcases ht with⟨k,ht⟩|ht|ht|⟨e,ht⟩<;>
 (simp only[zd,ht]at h
  unfold Cell.okWide at h;simp only[ht]at h;unfold Cell.ok at h;simp only[ht]at h;cases v<;>first|(exact⟨rfl,fun _ e=>by cases e⟩)|(exfalso;exact h))
theorem kW{k:Nat}{t:TypeId}{s:Sh}{v:Value}{d:DataW H}{p:List MemPlace}(hs:eH P k t=some s)(ho:zd P W .any base t v)(h:DataW.Trod enc P W 0 (fun _=>true) true t v d p):
  ∃x:s.T,PC (FW W) (B4 s x) (Pf W.heap.size v)∧Tp s x∧Ab (pW W) (Pf W.heap.size v) v:=by
 unfold eH at hs;split at hs
 case h_2=>cases hs
 rename_i s' hs';have plain:((∃k,P.underlying t=some (.int k))∨P.underlying t=some .bool∨P.underlying t=some .string∨∃e,P.underlying t=some (.slice e))→(bif s'.O9 then none else some s')=some s→∃x:s.T,PC (FW W) (B4 s x) (Pf W.heap.size v)∧Tp s x∧Ab (pW W) (Pf W.heap.size v) v:=by
  intro ht hb;cases hp:s'.O9 with
  |true=>rw[hp]at hb;cases hb
  |false=>
   rw[hp]at hb;cases hb;obtain⟨h1,h2⟩:=one_cell ht ho;have e:Pf W.heap.size v=MT W.heap.size v:=by
    unfold Pf;split
    ·rename_i cs;exact absurd rfl (h2 cs)
    ·rfl
   rw[e];exact iB hs' hp h1 h
 split at hs
 case h_1=>
  rename_i fs hu;cases hp:s'.O9 with
  |false=>rw[hp]at hs;cases hs
  |true=>
   rw[hp]at hs;cases hs;simp only[zd,hu]at ho;obtain⟨cs,rfl,_,_⟩:=ho;obtain⟨fuel,hf⟩:=h;obtain⟨x,h1,h2⟩:=Qx k fuel t s _ (d,p) hs' hf;refine⟨x,(PC.B4 h1).1 hp,h2,?_⟩;simp only[Pf,Ab];refine⟨cs,rfl,?_⟩;have hok:=h1.ok;have e:(Value.agg cs).cells.toList=cs.toList:=rfl;rw[e]at hok;generalize cs.toList=l at hok;induction l with
   |nil=>simp
   |cons a l ih=>
    simp only[zc,Bf];exact⟨Qm (hok _ (by simp)),ih fun v hv=>hok v (by simp only[zc,List.mem_cons];exact .inr hv)⟩
 case h_2=>rename_i k hu;exact plain (.inl ⟨k,hu⟩) hs
 case h_3=>rename_i hu;exact plain (.inr (.inl hu)) hs
 case h_4=>rename_i hu;exact plain (.inr (.inr (.inl hu))) hs
 case h_5=>rename_i e hu;exact plain (.inr (.inr (.inr ⟨e,hu⟩))) hs
 case h_6=>cases hs
theorem LX:∀ {ts:List TypeId} {args:List Value} {ds:List (DataW H)} {p:List MemPlace},DataW.TrodAll enc P W 0 (fun _=>true) true ts args ds p→ds.length=ts.length
 |[],_,_,_,h=>by obtain⟨_,rfl,_⟩:=trodAll_nil h;rfl
 |t::ts,_,_,_,h=>by
  obtain⟨v0,vs0,d0,ds0,p0,q0,rfl,rfl,rfl,h0,r0⟩:=trodAll_cons h;simp[LX r0]
theorem sX{α:Type}{l:List α}(h:l.length=2):∃a b,l=[a,b]:=by
 match l,h with
 |[a,b],_=>exact⟨a,b,rfl⟩
theorem TE{k:Nat}:∀ {ts:List TypeId} {ss:List Sh} {args:List Value} {ds:List (DataW H)} {p:List MemPlace},QY P k ts=some ss→(∀(j:Nat) t v,ts[j]?=some t→args[j]?=some v→zd P W .any base t v)→
  DataW.TrodAll enc P W 0 (fun _=>true) true ts args ds p→∃x:(BA ss).T,Lj (FW W) (Ah ss x) (args.map (Pf W.heap.size))∧wX ss x∧Ap (pW W) (args.map (Pf W.heap.size)) args
 |[],ss,args,ds,p,hs,_,h=>by
  cases hs;obtain⟨rfl,rfl,rfl⟩:=trodAll_nil h;exact⟨(),fun ρ N=>by simp[Ah],trivial,by simp⟩
 |t::ts,ss,args,ds,p,hs,hv,h=>by
  unfold QY at hs;split at hs
  case h_2=>cases hs
  rename_i s ss' h1 h2;cases hs;obtain⟨v0,vs0,d0,ds0,p0,q0,rfl,rfl,rfl,h0,r0⟩:=trodAll_cons h;obtain⟨x,a1,a2,a3⟩:=kW h1 (hv 0 t v0 rfl rfl) h0;obtain⟨y,b1,b2,b3⟩:=TE h2 (fun j t v ht hv'=>hv (j+1) t v ht hv') r0;have hr:Ap (pW W) ((v0::vs0).map (Pf W.heap.size)) (v0::vs0):=by simp only[zc,Bf];exact⟨a3,b3⟩
  cases ss' with
  |nil=>exact⟨x,fun ρ N=>by
    have:=b1 ρ N;simp only[Ah,BZ]at this;simp only[zc,Ah,this,A0,BZ,and_true];exact a1 ρ N,a2,hr⟩
  |cons s2 ss2=>exact⟨(x,y),fun ρ N=>by
    simp only[zc,Ah,A0];exact⟨a1 ρ N,b1 ρ N⟩,⟨a2,b2⟩,hr⟩
end
end
end Go.Pe
end
