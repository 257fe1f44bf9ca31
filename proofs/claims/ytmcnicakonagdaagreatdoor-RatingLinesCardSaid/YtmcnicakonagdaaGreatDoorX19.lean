import Derived.Test.YtmcnicakonagdaaGreatDoorX17
import Derived.Lib.LaidTab
import Derived.Stop.LaidErr
import Derived.Test.YtmcnicakonagdaaGreatDoorX16
import Derived.ChangeShapes
import Derived.OpenShut
/- A part of a proof (no law is stated here). Made by program out of texts by AI agents. -/
noncomputable section
open List renaming map_cons -> zc
open Go.Value renaming okWide -> zd
namespace Go.Pe
open Go.Det Go.RowKit
open Go.Proofs Go.Proofs.YtmcnicakonagdaaGreatDoor
abbrev tH:List Int:=[1,10,100,1000,10000,100000,1000000,10000000,100000000,1000000000,10000000000,100000000000,1000000000000,10000000000000,100000000000000,1000000000000000,10000000000000000,100000000000000000,1000000000000000000,10000000000000000000]
theorem zX{W:World}(hl:laidMetH Tryz.prog cR W)(hs:W.ShapedOpen Tryz.prog):GW W:=by
 rw[MakeChecks.laidMetH_plain _ _ _ (by kernel_rfl)]at hl;have h3:=hl.tail.tail;have ht : Lib.TabIs Tryz.prog W "internal/strconv.uint64pow10" .u64 tH := Lib.tabIs_of_head (g := 5) (n := 20) (by kernel_rfl) (by kernel_rfl) Tryz.underlying322 Tryz.underlying215 (by kernel_rfl) (by kernel_rfl) h3;unfold Lib.TabIs World.var? at ht;have hg : Tryz.prog.globalNamed "internal/strconv.uint64pow10" = some 5 := by kernel_rfl
 rw[hg]at ht;have hrow:((begin Tryz.prog (fun _ _=>0) default).world.heap[5]?).bind Obj.row?=some ((tH.map fun _=>Value.int .u64 0).toArray,322):=by kernel_rfl
 obtain⟨cs,hc,_,_⟩:=hs.1 5 _ 322 (by decide+kernel) hrow;simp only[Option.bind_some,hc]at ht;have hcs:cs=(tH.map fun z=>Value.int .u64 z).toArray:=Option.some.inj ht;intro x hx;have hx:x=(5,.cells (xX [1,10,100,1000,10000,100000,1000000,10000000,100000000,1000000000,10000000000,100000000000,1000000000000,10000000000000,100000000000000,1000000000000000,10000000000000000,100000000000000000,1000000000000000000,10000000000000000000]) 322 (0,20)):=by
  simpa [FN]using hx
 subst hx;unfold Ox;rw[hc,hcs];rfl
end Go.Pe
namespace Go.Pe
open Go.Det Go.RowKit Go.ChangeShapes
def P5(k:Nat):Value->V
 | .agg cs=>.agg (cs.toList.map (NB k))
 |v=>NB k v
def dP(P:Program)(k:Nat)(t:TypeId):Option Sh:=
 match wT P k t with
 |some s=>match P.underlying t with
  |some (.struct _)=>bif s.P6 then some s else none
  |some (.int _)|some .bool|some .string|some (.slice _)=>bif s.P6 then none else some s
  |_=>none
 |none=>none
def So(P:Program)(k:Nat):List TypeId->Option (List Sh)
 |[]=>some []
 |t::ts=>match dP P k t,So P k ts with
  |some s,some ss=>some (s::ss)
  |_,_=>none
def wfL:(l:List Sh)->(BG l).T->Prop
 |[],_=>True
 |[a],x=>TR a x
 |a::b::l,x=>TR a x.1/\wfL (b::l) x.2
section
variable {H:Type}{enc:TypeId×Value->H}{P:Program}{W:World}{base:Nat}
theorem gC{t:TypeId}{v:Value}(ht:(∃k,P.underlying t=some (.int k))\/P.underlying t=some .bool\/P.underlying t=some .string\/∃e,P.underlying t=some (.slice e))(h:zd P W .any base t v):v.cells.toList=[v]/\∀cs,v≠ .agg cs:=by
 rcases ht with⟨k,ht⟩|ht|ht|⟨e,ht⟩<;>
 (simp only[zd,ht]at h
  unfold Cell.okWide at h;simp only[ht]at h;unfold Cell.ok at h;simp only[ht]at h;cases v<;>first|(exact⟨rfl,fun _ e=>by cases e⟩)|(exfalso;exact h))
theorem jS{k:Nat}{t:TypeId}{s:Sh}{v:Value}{d:DataW H}{p:List MemPlace}(hs:dP P k t=some s)(ho:zd P W .any base t v)(h:DataW.Trod enc P W 0 (fun _=>true) true t v d p):
  ∃x:s.T,PC (FW W) (B5 s x) (P5 W.heap.size v)/\TR s x/\Ac (pW W) (P5 W.heap.size v) v:=by
 unfold dP at hs;split at hs
 case h_2=>cases hs
 rename_i s' hs';have plain:((∃k,P.underlying t=some (.int k))\/P.underlying t=some .bool\/P.underlying t=some .string\/∃e,P.underlying t=some (.slice e))->(bif s'.P6 then none else some s')=some s->∃x:s.T,PC (FW W) (B5 s x) (P5 W.heap.size v)/\TR s x/\Ac (pW W) (P5 W.heap.size v) v:=by
  intro ht hb;cases hp:s'.P6 with
  |true=>rw[hp]at hb;cases hb
  |false=>
   rw[hp]at hb;cases hb;obtain⟨h1,h2⟩:=gC ht ho;have e:P5 W.heap.size v=NB W.heap.size v:=by
    unfold P5;split
    ·rename_i cs;exact wh rfl (h2 cs)
    ·rfl
   rw[e];exact lH hs' hp h1 h
 split at hs
 case h_1=>
  rename_i fs hu;cases hp:s'.P6 with
  |false=>rw[hp]at hs;cases hs
  |true=>
   rw[hp]at hs;cases hs;simp only[zd,hu]at ho;obtain⟨cs,rfl,_,_⟩:=ho;obtain⟨fuel,hf⟩:=h;obtain⟨x,h1,h2⟩:=RP k fuel t s _ (d,p) hs' hf;refine⟨x,(PC.B5 h1).1 hp,h2,?_⟩;simp only[P5,Ac];refine⟨cs,rfl,?_⟩;have hok:=h1.ok;have e:(Value.agg cs).cells.toList=cs.toList:=rfl;rw[e]at hok;generalize cs.toList=l at hok;induction l with
   |nil=>simp
   |cons a l ih=>
    simp only[zc,Bd];exact⟨Sz (hok _ (by simp)),ih fun v hv=>hok v (by simp only[zc,List.mem_cons];exact .inr hv)⟩
 case h_2=>rename_i k hu;exact plain (.inl ⟨k,hu⟩) hs
 case h_3=>rename_i hu;exact plain (.inr (.inl hu)) hs
 case h_4=>rename_i hu;exact plain (.inr (.inr (.inl hu))) hs
 case h_5=>rename_i e hu;exact plain (.inr (.inr (.inr ⟨e,hu⟩))) hs
 case h_6=>cases hs
theorem Mp:∀ {ts:List TypeId} {args:List Value} {ds:List (DataW H)} {p:List MemPlace},DataW.TrodAll enc P W 0 (fun _=>true) true ts args ds p->ds.length=ts.length
 |[],_,_,_,h=>by obtain⟨_,rfl,_⟩:=trodAll_nil h;rfl
 |t::ts,_,_,_,h=>by
  obtain⟨v0,vs0,d0,ds0,p0,q0,rfl,rfl,rfl,h0,r0⟩:=trodAll_cons h;simp[Mp r0]
theorem xO{α:Type}{l:List α}(h:l.length=3):∃a b c,l=[a,b,c]:=by
 match l,h with
 |[a,b,c],_=>exact⟨a,b,c,rfl⟩
theorem US{k:Nat}:∀ {ts:List TypeId} {ss:List Sh} {args:List Value} {ds:List (DataW H)} {p:List MemPlace},So P k ts=some ss->(∀(j:Nat) t v,ts[j]?=some t->args[j]?=some v->zd P W .any base t v)->
  DataW.TrodAll enc P W 0 (fun _=>true) true ts args ds p->∃x:(BG ss).T,LX (FW W) (Af ss x) (args.map (P5 W.heap.size))/\wfL ss x/\As (pW W) (args.map (P5 W.heap.size)) args
 |[],ss,args,ds,p,hs,_,h=>by
  cases hs;obtain⟨rfl,rfl,rfl⟩:=trodAll_nil h;exact⟨(),fun ρ N=>by simp[Af],trivial,by simp⟩
 |t::ts,ss,args,ds,p,hs,hv,h=>by
  unfold So at hs;split at hs
  case h_2=>cases hs
  rename_i s ss' h1 h2;cases hs;obtain⟨v0,vs0,d0,ds0,p0,q0,rfl,rfl,rfl,h0,r0⟩:=trodAll_cons h;obtain⟨x,a1,a2,a3⟩:=jS h1 (hv 0 t v0 rfl rfl) h0;obtain⟨y,b1,b2,b3⟩:=US h2 (fun j t v ht hv'=>hv (j+1) t v ht hv') r0;have hr:As (pW W) ((v0::vs0).map (P5 W.heap.size)) (v0::vs0):=by simp only[zc,Bd];exact⟨a3,b3⟩
  cases ss' with
  |nil=>exact⟨x,fun ρ N=>by
    have:=b1 ρ N;simp only[Af,B0]at this;simp only[zc,Af,this,A1,B0,wn];exact a1 ρ N,a2,hr⟩
  |cons s2 ss2=>exact⟨(x,y),fun ρ N=>by
    simp only[zc,Af,A1];exact⟨a1 ρ N,b1 ρ N⟩,⟨a2,b2⟩,hr⟩
end
end Go.Pe
