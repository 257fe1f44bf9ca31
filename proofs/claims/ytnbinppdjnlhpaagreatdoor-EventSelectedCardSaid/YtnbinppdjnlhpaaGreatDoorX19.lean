import Derived.Test.YtnbinppdjnlhpaaGreatDoorX16
import Derived.Test.YtnbinppdjnlhpaaGreatDoorX09
import Derived.ChangeShapes
import Derived.OpenShut
/- A part of a proof (no law is stated here). Made by program out of texts by AI agents. -/
open Array renaming getElem?_eq_some_iff → zc, getElem?_eq_none → zl
open Nat renaming eq_of_beq_eq_true → zd, beq → zg
open List renaming getElem?_eq_getElem → ze, map_cons → zf, getElem?_take_of_lt → zi, map_take → zm, map_drop → zn
open Go.Value renaming okWide → zh
open Bool renaming and_eq_true → zj
open Option renaming bind_eq_some_iff → zk
open Go.DataW renaming trod → zo
open Go.Addr renaming add → zp
section
namespace Go.Det
noncomputable section
def Ng(k:Nat):Value→V
 | .bool b=>.bool b
 | .int q n=>.int q n
 | .string s=>.str s.data.toList
 | .pointer none=>.nilp
 | .slice none 0 0=>.nils
 | .slice (some _) 0 0=>.es0
 | .slice (some ⟨r,off,none⟩) len cap=>if r<k∧len≤cap then .sl r off len cap 0 else .junk
 | .map none=>.nilm
 | .nilFunc=>.nilf
 | .nilIface=>.nili
 |_=>.junk
def kC(W:World)(r:Nat):Nat:=match W.heap[r]? with
 |some (.cells c _ _)=>c.size
 |_=>0
def pW(W:World):Pl:=(List.range W.heap.size).map fun r=>(r,kC W r)
theorem MG{W:World}{r:Nat}(h:r<W.heap.size):(pW W)[r]?=some (r,kC W r):=by
 simp[pW,h]
def R6(W:World)(r:Nat):Option O:=match W.heap[r]? with
 |some (.cells c t _)=>if c.size=0 then none else some (.cells (c.toList.map (Ng W.heap.size)) t (0,c.size))
 |_=>none
def VP(W:World):Nat→H
 |0=>⟨.leaf,0⟩
 |n+1=>⟨(VP W n).m.set n (R6 W n),n+1⟩
theorem aD(W:World):∀n,(VP W n).nx=n
 |0=>rfl
 |_+1=>rfl
theorem RP(W:World):∀(n b:Nat),(VP W n).get b=if b<n then R6 W b else none
 |0,b=>by simp[VP,H.get]
 |n+1,b=>by
  have ih:=RP W n b;unfold H.get at ih ⊢;simp only[VP,PM.CX];by_cases e:b=n
  ·subst e;simp
  ·rw[if_neg e,ih];by_cases h:b<n
   ·rw[if_pos h,if_pos (by omega)]
   ·rw[if_neg h,if_neg (by omega)]
def hW(W:World):H:=VP W W.heap.size
theorem P5(W:World)(b:Nat):(hW W).get b=R6 W b:=by
 unfold hW;rw[RP];by_cases h:b<W.heap.size
 ·rw[if_pos h]
 ·rw[if_neg h];unfold R6;rw[zl (by omega)]
theorem Qd{W:World}{v:Value}(h:(Ng W.heap.size v).ok=true):Aa (pW W) (Ng W.heap.size v) v:=by
 revert h;unfold Ng;split<;>intro h
 case h_6=>simp only[Aa];exact⟨_,rfl⟩
 case h_7 r off len cap _=>
  split
  ·rename_i hc;simp only[Aa];exact⟨r,_,cap,MG hc.1,rfl,hc.2,Nat.le_refl _,fun _=>rfl,fun e=>absurd rfl e⟩
  ·rename_i hc;rw[if_neg hc]at h;cases h
 case h_11=>cases h
 all_goals simp only[Aa]
 all_goals rfl
theorem pK(W:World):R (pW W) (hW W) W:=by
 refine⟨by simp[pW,hW,aD],fun b o hb=>?_,fun b b' o o' r n n' hb hb' h1 h2=>?_⟩
 ·rw[P5]at hb;unfold R6 at hb;split at hb
  case h_2=>cases hb
  rename_i c t fz hc;split at hb
  case isTrue=>cases hb
  cases hb;have hlt:b<W.heap.size:=(zc.1 hc).1;have hs:kC W b=c.size:=by unfold kC;rw[hc]
  refine⟨b,c.size,_,by rw[MG hlt,hs],hc,c,fz,rfl,rfl,by simp,⟨by simp,fun i d v hd hv hok=>?_⟩,fun i hi h1 h2=>⟨Nat.zero_le _,hi⟩⟩;rw[List.getElem?_map]at hd;rw[List.length_map,zi (by have:=(List.getElem?_eq_some_iff.1 hv).1;simp at this;simpa using this)]at hv;rw[hv]at hd;cases hd;exact Qd hok
 ·have key:∀b o r n,(hW W).get b=some o→(pW W)[b]?=some (r,n)→r=b:=by
   intro b o r n hb h1;rw[P5]at hb;have hlt:b<W.heap.size:=by
    unfold R6 at hb;by_cases h:b<W.heap.size
    ·exact h
    ·rw[zl (by omega)]at hb;cases hb
   rw[MG hlt]at h1;cases h1;rfl
  rw[←key b o r n hb h1, ←key b' o' r n' hb' h2]
theorem Y7{W W':World}{p':Pl}{h':H}(he:Ext (pW W) (hW W) W p' h' W'):RowKit.Below W.heap.size W W':=by
 refine⟨he.os,he.tape,he.out,he.size,fun k hk=>?_⟩;by_cases hi:Im (pW W) (hW W) k
 ·obtain⟨b,o,n,h1,h2⟩:=hi;have h1':=h1;rw[P5]at h1';unfold R6 at h1';split at h1'
  case h_2=>cases h1'
  rename_i c t fz hc;split at h1'
  case isTrue=>cases h1'
  rename_i h0;cases h1';have hlt:b<W.heap.size:=(zc.1 hc).1;have hs:kC W b=c.size:=by unfold kC;rw[hc]
  rw[MG hlt,hs]at h2;cases h2;exact(he.lock _ hk ⟨_,_,_,_,_,h1,by rw[MG hlt,hs],rfl,Nat.le_refl _,Nat.pos_of_ne_zero h0⟩).1
 ·exact he.same k hk hi
end
end Go.Det
end
section
namespace Go.Pe
open Go.Det
noncomputable section
def FW(W:World):Fz:=fun b=>match (hW W).get b with
 |some (.cells cs _ _)=>some cs
 |_=>none
def QM:(s:Sh)→s.T→Prop
 | .int k,x=>k.min≤(x:Int)∧(x:Int)≤k.max
 | .bool,_=>True
 | .str,x=>(x:List UInt8).length≤maxLen
 | .list s,l=>(l:List s.T).length≤maxLen∧∀x∈(l:List s.T),QM s x
 | .pair a b,x=>QM a x.1∧QM b x.2
 | .unit,_=>True
 | .nlist _,_=>True
 | .fnv,_=>True
def WT(P:Program)(f:TypeId→Option Sh):Nat→List Field→Option Sh
 |_,[]=>some .unit
 |o,[x]=>match f x.type with
  |some s=>bif zg x.offset o&&zg (P.cellsOf x.type) s.sz then some s else none
  |none=>none
 |o,x::y::l=>match f x.type with
  |some s=>bif zg x.offset o&&zg (P.cellsOf x.type) s.sz then(WT P f (o+s.sz) (y::l)).map (.pair s)else none
  |none=>none
def kL(P:Program):Nat→TypeId→Option Sh
 |0,_=>none
 |f+1,t=>match P.underlying t with
  |some (.int k)=>some (.int k)
  |some .bool=>some .bool
  |some .string=>some .str
  |some (.slice e)=>match kL P f e with
   |some s=>bif zg (P.cellsOf e) s.sz&&Nat.blt 0 s.sz then some (.list s)else none
   |none=>none
  |some (.struct fs)=>match WT P (kL P f) 0 fs.toList with
   |some s=>bif zg (P.cellsOf t) s.sz then some s else none
   |none=>none
  |_=>none
section
variable {H:Type}{enc:TypeId×Value→H}{P:Program}{W:World}
theorem YL{r:Nat}{c:Array Value}{t:TypeId}{fz:Nat×Nat}(h:W.heap[r]?=some (.cells c t fz))(h0:c.size≠0):FW W r=some (c.toList.map (Ng W.heap.size)):=by
 unfold FW;rw[P5];unfold R6;rw[h];simp only[if_neg h0]
theorem Od{a:Addr}{n:Nat}{cs:List Value}(h:W.cells? 0 a n=some cs)(hn:0<n):
  ∃c t fz,W.heap[a.block]?=some (.cells c t fz)∧a.spot=none∧a.off+n≤c.size∧cs=(c.toList.drop a.off).take n:=by
 unfold World.cells? at h;rw[if_pos (Nat.zero_le _)]at h;have hl:=mapM_some_length h;have hg:=mapM_some_get h;simp only[List.length_range]at hl;have h0:=hg 0 0 (by simp[hn]);have ha0:a.add 0=a:=by simp[zp]
 rw[ha0]at h0;obtain⟨v0,hv0⟩:∃v,cs[0]?=some v:=⟨cs[0],ze (by omega)⟩;rw[hv0]at h0;unfold World.cell? at h0;split at h0
 case h_2=>cases h0
 rename_i c t fz hb;split at h0
 case isTrue=>cases h0
 rename_i hs;have hs:a.spot=none:=by simpa using hs
 have hc:∀i,i<n→c[a.off+i]?=cs[i]?:=by
  intro i hi;have:=hg i i (by simp[hi]);unfold World.cell? at this;have hb':(a.add i).block=a.block:=by unfold zp;split<;>rfl
  have hs':(a.add i).spot=none:=by unfold zp;split<;>simp[hs]
  have ho':(a.add i).off=a.off+i:=by unfold zp;split<;>simp_all
  rw[hb',hb]at this;simpa [hs',ho']using this
 refine⟨c,t,fz,hb,hs,?_,?_⟩
 ·have:=hc (n-1) (by omega);rw[ze (by omega)]at this;have:=(zc.1 this).1;omega
 ·apply List.ext_getElem?;intro i;by_cases hi:i<n
  ·rw[←hc i hi,zi hi,List.getElem?_drop];simp
  ·rw[List.getElem?_eq_none (by omega),List.getElem?_eq_none (by simp;omega)]
theorem U1{α:Type}{p:Nat→α→Prop}:∀n:Nat,(∀i,i<n→∃x,p i x)→∃l:List α,l.length=n∧∀i (h:i<l.length),p i l[i]
 |0,_=>⟨[],rfl,fun i h=>absurd h (Nat.not_lt_zero _)⟩
 |n+1,h=>by
  obtain⟨l,h1,h2⟩:=U1 n fun i hi=>h i (by omega)
  obtain⟨x,hx⟩:=h n (by omega);refine⟨l++[x],by simp[h1],fun i hi=>?_⟩;by_cases e:i<l.length
  ·rw[List.getElem_append_left e];exact h2 i e
  ·have:i=n:=by simp at hi;omega
   subst this;rw[List.getElem_append_right (by omega)];simpa [h1]using hx
theorem Oe{f:TypeId→Option Sh}{n:Nat}{cs:List Value}
  (ih:∀(t:TypeId) (s:Sh) (cs:List Value) (y:DataW H×List MemPlace),f t=some s→zo enc P W 0 (fun _=>true) true n t cs=some y→∃x:s.T,DC (FW W) s x (cs.map (Ng W.heap.size))∧QM s x):
  ∀(fs:List Field) (o:Nat) (s:Sh),WT P f o fs=some s→(∀x∈fs,∃z,zo enc P W 0 (fun _=>true) true n x.type ((cs.drop x.offset).take (P.cellsOf x.type))=some z)→
   ∃x:s.T,DC (FW W) s x (((cs.map (Ng W.heap.size)).drop o).take s.sz)∧QM s x
 |[],o,s,hs,_=>by
  cases hs;exact⟨(),by simp[DC,Sh.sz],trivial⟩
 |[x],o,s,hs,hx=>by
  unfold WT at hs;split at hs
  case h_2=>cases hs
  rename_i s' hs';cases hc:(zg x.offset o&&zg (P.cellsOf x.type) s'.sz)with
  |false=>rw[hc]at hs;cases hs
  |true=>
  rw[hc]at hs;cases hs;simp only[zj]at hc;obtain⟨z,hz⟩:=hx x (by simp);rw[zd hc.1,zd hc.2]at hz;have:=ih _ _ _ _ hs' hz;simpa [zm,zn]using this
 |x::x'::l,o,s,hs,hx=>by
  unfold WT at hs;split at hs
  case h_2=>cases hs
  rename_i s' hs';cases hc:(zg x.offset o&&zg (P.cellsOf x.type) s'.sz)with
  |false=>rw[hc]at hs;cases hs
  |true=>
  rw[hc]at hs;simp only[cond_true,Option.map_eq_some_iff]at hs;obtain⟨s2,h2,rfl⟩:=hs;simp only[zj]at hc;obtain⟨z,hz⟩:=hx x (by simp);rw[zd hc.1,zd hc.2]at hz;obtain⟨a,a1,a2⟩:=ih _ _ _ _ hs' hz;obtain⟨b,b1,b2⟩:=Oe ih (x'::l) (o+s'.sz) s2 h2 (fun u hu=>hx u (List.mem_cons_of_mem _ hu));refine⟨(a,b),?_,a2,b2⟩;simp only[DC];refine⟨_,_,?_,a1,b1⟩;rw[zm,zn, ←List.drop_drop];exact List.take_add
theorem Pr:∀(k fuel:Nat) (t:TypeId) (s:Sh) (cs:List Value) (y:DataW H×List MemPlace),kL P k t=some s→zo enc P W 0 (fun _=>true) true fuel t cs=some y→
  ∃x:s.T,DC (FW W) s x (cs.map (Ng W.heap.size))∧QM s x
 |0,_,_,_,_,_,hs,_=>by cases hs
 |k+1,fuel,t,s,cs,y,hs,h=>by
  have ih:=Pr k;unfold kL at hs;split at hs
  case h_1 q hu=>
   cases hs;obtain⟨n,rfl,_,hw⟩:=DataW.trod_int hu h;exact⟨(n:Int),by simp[DC,Ng],by simpa [QM,Lit.wf]using hw⟩
  case h_2 hu=>
   cases hs;obtain⟨b,rfl,_⟩:=DataW.trod_bool hu h;exact⟨b,by simp[DC,Ng],trivial⟩
  case h_3 hu=>
   cases hs;obtain⟨b,rfl,_,hw⟩:=DataW.trod_string hu h;exact⟨b.data.toList,by simp[DC,Ng],by show b.data.toList.length≤maxLen;rw[Array.length_toList];exact hw⟩
  case h_4 e hu=>
   split at hs
   case h_2=>cases hs
   rename_i s' hs';cases hc:(zg (P.cellsOf e) s'.sz&&Nat.blt 0 s'.sz)with
   |false=>rw[hc]at hs;cases hs
   |true=>
   rw[hc]at hs;cases hs;simp only[zj]at hc;have hsz:=zd hc.1;have hpos:=Nat.le_of_ble_eq_true hc.2;rcases DataW.trod_slice hu h with⟨rfl,_⟩|⟨a,len,cap,elems,rest,n,rfl,rfl,_,_,hlc,hcm,hel,he,hr,_⟩
   ·exact⟨[],by simp[DC,Ng],by simp[QM]⟩
   ·obtain⟨hrl,hr⟩:=hr rfl;rw[hsz]at he hr;by_cases h0:cap=0
    ·obtain rfl:len=0:=by omega
     subst h0;exact⟨[],by simp[DC,Ng],by simp[QM]⟩
    ·
     have all:∀i,i<cap→∃ci z,W.cells? 0 (a.add (i*s'.sz)) s'.sz=some ci∧zo enc P W 0 (fun _=>true) true n e ci=some z:=by
      intro i hi;by_cases hl:i<len
      ·have h1:=he i hl;rw[ze (by omega)]at h1;rw[zk]at h1;obtain⟨ci,h2,h3⟩:=h1;exact⟨ci,_,h2,h3⟩
      ·have h1:=hr (i-len) (by omega);rw[show len+(i-len)=i by omega,ze (by omega)]at h1;rw[zk]at h1;obtain⟨ci,h2,h3⟩:=h1;exact⟨ci,_,h2,h3⟩
     obtain⟨c0,z0,g0,_⟩:=all 0 (by omega);rw[Nat.zero_mul,show a.add 0=a from by simp[zp]]at g0;obtain⟨c,tc,fz,hb,hsp,hoff,_⟩:=Od g0 hpos;have hlt:a.block<W.heap.size:=(zc.1 hb).1;have hF:=YL hb (by omega);obtain⟨ab,ao,ax⟩:=a;simp only at hsp hb hoff hlt hF;subst hsp;have cell:∀i,i<cap→ao+i*s'.sz+s'.sz≤c.size∧∃x:s'.T,DC (FW W) s' x (((c.toList.map (Ng W.heap.size)).drop (ao+i*s'.sz)).take s'.sz)∧QM s' x:=by
      intro i hi;obtain⟨ci,z,h1,h2⟩:=all i hi;rw[Addr.Hm]at h1;obtain⟨c',tc',fz',hb',_,ho',rfl⟩:=Od h1 (by omega);simp only at hb' ho';rw[hb]at hb';cases hb';refine⟨ho',?_⟩;have:=ih _ _ _ _ _ hs' h2;simpa [zm,zn]using this
     obtain⟨l,hl1,hl2⟩:=U1 (p:=fun i (x:s'.T)=>DC (FW W) s' x (((c.toList.map (Ng W.heap.size)).drop (ao+i*s'.sz)).take s'.sz)∧QM s' x) len fun i hi=>(cell i (by omega)).2
     refine⟨l,?_,?_⟩
     ·simp only[DC];refine⟨.sl ab ao len cap 0,?_,.inr ⟨ab,ao,cap,0,_,by rw[hl1],by omega,hF,?_,.inl rfl,fun i hi=>(hl2 i hi).1⟩⟩
      ·have:(Value.slice (some ⟨ab,ao,none⟩) len cap)=.slice (some ⟨ab,ao,none⟩) len cap:=rfl;have hne:¬(len=0∧cap=0):=fun h=>h0 h.2
       cases cap with
       |zero=>exact absurd rfl h0
       |succ cap=>simp[Ng,hlt,hlc]
      ·rw[hl1];have:=(cell (cap-1) (by omega)).1;have h2:len*s'.sz≤cap*s'.sz:=Nat.mul_le_mul_right _ hlc;have h3:cap*s'.sz=(cap-1)*s'.sz+s'.sz:=by rw[←Nat.succ_mul];congr 1;omega
       simp;omega
     ·simp only[QM];refine⟨by omega,fun x hx=>?_⟩;obtain⟨i,hi,rfl⟩:=List.mem_iff_getElem.1 hx;exact(hl2 i hi).2
  case h_5 fs hu=>
   split at hs
   case h_2=>cases hs
   rename_i s' hs';cases hc:zg (P.cellsOf t) s'.sz with
   |false=>rw[hc]at hs;cases hs
   |true=>
   rw[hc]at hs;cases hs;have hsz:=zd hc;obtain⟨xs,n,rfl,_,hlen,hxl,hf⟩:=DataW.trod_struct hu h;obtain⟨x,h1,h2⟩:=Oe (cs:=cs) (fun t s cs y h1 h2=>ih n t s cs y h1 h2) fs.toList 0 _ hs' (fun f hfm=>by
    obtain⟨i,hi⟩:=List.mem_iff_getElem?.1 hfm;have hi':fs[i]?=some f:=by simpa using hi
    have:=hf i f hi';have hlt:=(zc.1 hi').1;rw[ze (by omega)]at this;exact⟨_,this⟩)
   refine⟨x,?_,h2⟩;rw[List.drop_zero,List.take_of_length_le (by simp;omega)]at h1;exact h1
  case h_6=>cases hs
theorem Y8{k:Nat}{t:TypeId}{s:Sh}{v:Value}{d:DataW H}{p:List MemPlace}(hs:kL P k t=some s)(hp:s.Mo=false)(hc:v.cells.toList=[v])(h:DataW.Trod enc P W 0 (fun _=>true) true t v d p):
  ∃x:s.T,PC (FW W) (BY s x) (Ng W.heap.size v)∧QM s x∧Aa (pW W) (Ng W.heap.size v) v:=by
 obtain⟨fuel,hf⟩:=h;rw[hc]at hf;obtain⟨x,h1,h2⟩:=Pr k fuel t s [v] (d,p) hs hf;simp only[zf,List.map_nil]at h1;exact⟨x,(PC.BY h1).2 hp _ rfl,h2,Qd (h1.ok _ (by simp))⟩
end
end
end Go.Pe
end
section
namespace Go.Pe
open Go.Det Go.RowKit
noncomputable section
open Go.Proofs.Tryz (prog)
theorem Mc{f:FuncId}{sp:As}(ok:Ad AR f sp)(i:(Bi sp.ins).T)(hpre:sp.pre i=true){args:List V}{args':Array Value}{W:World}(hP:Kv (FW W) (Ag sp.ins i) args)
  (ha:Aq (pW W) args args'.toList) (hres:∀F' v,PC F' (one (Ag sp.outs (sp.f i))) v→v=.bool true) (hp:AR.prim f=none:=by kernel_rfl):
  Calls prog f args' W fun e W'=>e=.returned (.bool true)∧Below W.heap.size W W':=by
 obtain⟨l,M,h1,_,h2⟩:=(ok.zero hp).run (FW W) (hW W) args i (fun b cs h=>by
  unfold FW at h;split at h
  case h_2=>cases h
  rename_i cs' t fz hg;cases h;exact⟨t,fz,hg⟩) (fun b o h=>(pK W).lt h) hP hpre
 refine((JI gV Vq SH M).fn f args (hW W) l (h1 M (Nat.le_refl _)) (pW W) W args' (pK W) (fun g hg=>absurd hg (Nat.not_lt_zero _)) ha).mono ?_;rintro e w' ⟨v,h',v',p',hm,rfl,hv,hx⟩;obtain⟨_,_,_,F',_,_,_,hr⟩:=h2 _ hm;obtain rfl:=hres F' v hr;refine⟨?_,Y7 hx⟩;simp only[Aa]at hv;rw[hv]
end
end Go.Pe
end
section
namespace Go.Pe
open Go.Det Go.RowKit Go.ChangeShapes
noncomputable section
def NW(k:Nat):Value→V
 | .agg cs=>.agg (cs.toList.map (Ng k))
 |v=>Ng k v
def X0(P:Program)(k:Nat)(t:TypeId):Option Sh:=
 match kL P k t with
 |some s=>match P.underlying t with
  |some (.struct _)=>bif s.Mo then some s else none
  |some (.int _)|some .bool|some .string|some (.slice _)=>bif s.Mo then none else some s
  |_=>none
 |none=>none
def P2(P:Program)(k:Nat):List TypeId→Option (List Sh)
 |[]=>some []
 |t::ts=>match X0 P k t,P2 P k ts with
  |some s,some ss=>some (s::ss)
  |_,_=>none
def pJ:(l:List Sh)→(Bi l).T→Prop
 |[],_=>True
 |[a],x=>QM a x
 |a::b::l,x=>QM a x.1∧pJ (b::l) x.2
section
variable {H:Type}{enc:TypeId×Value→H}{P:Program}{W:World}{base:Nat}
theorem Ws{t:TypeId}{v:Value}(ht:(∃k,P.underlying t=some (.int k))∨P.underlying t=some .bool∨P.underlying t=some .string∨∃e,P.underlying t=some (.slice e))(h:zh P W .any base t v):v.cells.toList=[v]∧∀cs,v≠ .agg cs:=by
 rcases ht with⟨k,ht⟩|ht|ht|⟨e,ht⟩<;>
 (simp only[zh,ht]at h
  unfold Cell.okWide at h;simp only[ht]at h;unfold Cell.ok at h;simp only[ht]at h;cases v<;>first|(exact⟨rfl,fun _ e=>by cases e⟩)|(exfalso;exact h))
theorem ZM{k:Nat}{t:TypeId}{s:Sh}{v:Value}{d:DataW H}{p:List MemPlace}(hs:X0 P k t=some s)(ho:zh P W .any base t v)(h:DataW.Trod enc P W 0 (fun _=>true) true t v d p):
  ∃x:s.T,PC (FW W) (BY s x) (NW W.heap.size v)∧QM s x∧Aa (pW W) (NW W.heap.size v) v:=by
 unfold X0 at hs;split at hs
 case h_2=>cases hs
 rename_i s' hs';have plain:((∃k,P.underlying t=some (.int k))∨P.underlying t=some .bool∨P.underlying t=some .string∨∃e,P.underlying t=some (.slice e))→(bif s'.Mo then none else some s')=some s→∃x:s.T,PC (FW W) (BY s x) (NW W.heap.size v)∧QM s x∧Aa (pW W) (NW W.heap.size v) v:=by
  intro ht hb;cases hp:s'.Mo with
  |true=>rw[hp]at hb;cases hb
  |false=>
   rw[hp]at hb;cases hb;obtain⟨h1,h2⟩:=Ws ht ho;have e:NW W.heap.size v=Ng W.heap.size v:=by
    unfold NW;split
    ·rename_i cs;exact absurd rfl (h2 cs)
    ·rfl
   rw[e];exact Y8 hs' hp h1 h
 split at hs
 case h_1=>
  rename_i fs hu;cases hp:s'.Mo with
  |false=>rw[hp]at hs;cases hs
  |true=>
   rw[hp]at hs;cases hs;simp only[zh,hu]at ho;obtain⟨cs,rfl,_,_⟩:=ho;obtain⟨fuel,hf⟩:=h;obtain⟨x,h1,h2⟩:=Pr k fuel t s _ (d,p) hs' hf;refine⟨x,(PC.BY h1).1 hp,h2,?_⟩;simp only[NW,Aa];refine⟨cs,rfl,?_⟩;have hok:=h1.ok;have e:(Value.agg cs).cells.toList=cs.toList:=rfl;rw[e]at hok;generalize cs.toList=l at hok;induction l with
   |nil=>simp
   |cons a l ih=>
    simp only[zf,A5];exact⟨Qd (hok _ (by simp)),ih fun v hv=>hok v (by simp only[zf,List.mem_cons];exact .inr hv)⟩
 case h_2=>rename_i k hu;exact plain (.inl ⟨k,hu⟩) hs
 case h_3=>rename_i hu;exact plain (.inr (.inl hu)) hs
 case h_4=>rename_i hu;exact plain (.inr (.inr (.inl hu))) hs
 case h_5=>rename_i e hu;exact plain (.inr (.inr (.inr ⟨e,hu⟩))) hs
 case h_6=>cases hs
theorem KP:∀ {ts:List TypeId} {args:List Value} {ds:List (DataW H)} {p:List MemPlace},DataW.TrodAll enc P W 0 (fun _=>true) true ts args ds p→ds.length=ts.length
 |[],_,_,_,h=>by obtain⟨_,rfl,_⟩:=trodAll_nil h;rfl
 |t::ts,_,_,_,h=>by
  obtain⟨v0,vs0,d0,ds0,p0,q0,rfl,rfl,rfl,h0,r0⟩:=trodAll_cons h;simp[KP r0]
theorem mD{α:Type}{l:List α}(h:l.length=3):∃a b c,l=[a,b,c]:=by
 match l,h with
 |[a,b,c],_=>exact⟨a,b,c,rfl⟩
theorem Rp{k:Nat}:∀ {ts:List TypeId} {ss:List Sh} {args:List Value} {ds:List (DataW H)} {p:List MemPlace},P2 P k ts=some ss→(∀(j:Nat) t v,ts[j]?=some t→args[j]?=some v→zh P W .any base t v)→
  DataW.TrodAll enc P W 0 (fun _=>true) true ts args ds p→∃x:(Bi ss).T,Kv (FW W) (Ag ss x) (args.map (NW W.heap.size))∧pJ ss x∧Aq (pW W) (args.map (NW W.heap.size)) args
 |[],ss,args,ds,p,hs,_,h=>by
  cases hs;obtain⟨rfl,rfl,rfl⟩:=trodAll_nil h;exact⟨(),fun ρ N=>by simp[Ag],trivial,by simp⟩
 |t::ts,ss,args,ds,p,hs,hv,h=>by
  unfold P2 at hs;split at hs
  case h_2=>cases hs
  rename_i s ss' h1 h2;cases hs;obtain⟨v0,vs0,d0,ds0,p0,q0,rfl,rfl,rfl,h0,r0⟩:=trodAll_cons h;obtain⟨x,a1,a2,a3⟩:=ZM h1 (hv 0 t v0 rfl rfl) h0;obtain⟨y,b1,b2,b3⟩:=Rp h2 (fun j t v ht hv'=>hv (j+1) t v ht hv') r0;have hr:Aq (pW W) ((v0::vs0).map (NW W.heap.size)) (v0::vs0):=by simp only[zf,A5];exact⟨a3,b3⟩
  cases ss' with
  |nil=>exact⟨x,fun ρ N=>by
    have:=b1 ρ N;simp only[Ag,BU]at this;simp only[zf,Ag,this,AQ,BU,and_true];exact a1 ρ N,a2,hr⟩
  |cons s2 ss2=>exact⟨(x,y),fun ρ N=>by
    simp only[zf,Ag,AQ];exact⟨a1 ρ N,b1 ρ N⟩,⟨a2,b2⟩,hr⟩
end
end
end Go.Pe
end
