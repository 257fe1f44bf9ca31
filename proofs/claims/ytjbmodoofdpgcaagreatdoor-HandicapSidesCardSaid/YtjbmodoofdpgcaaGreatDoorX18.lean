import Derived.Test.YtjbmodoofdpgcaaGreatDoorX16
import Derived.Stop.LaidErr
import Derived.ChangeShapes
/- A part of a proof; no law is stated here. -/
noncomputable section
open Nat renaming eq_of_beq_eq_true -> zc, beq -> zi
open Go.DataW renaming weightsEach -> zd, weights -> zg, trod -> zh, trod_int -> zn
open Go.Value renaming okWide -> ze
open Bool renaming and_eq_true -> zf
open List renaming mem_append -> zj, map_cons -> zk, getElem?_eq_getElem -> zl, map_take -> zo, map_drop -> zp
open Option renaming bind_eq_some_iff -> zm
namespace Go.Pe
open Go.Det Go.RowKit
open Go.Proofs Go.Proofs.YtjbmodoofdpgcaaGreatDoor
abbrev vG:List Int:=[1,10,100,1000,10000,100000,1000000,10000000,100000000,1000000000,10000000000,100000000000,1000000000000,10000000000000,100000000000000,1000000000000000,10000000000000000,100000000000000000,1000000000000000000,10000000000000000000]
theorem sN{W:World}(f:laidMetH Tryz.prog cO W)(i:W.ShapedOpen Tryz.prog):GW W:=by
 rw[MakeChecks.laidMetH_plain _ _ _ ag]at f;have j:=f.tail.tail;have b : Lib.TabIs Tryz.prog W "internal/strconv.uint64pow10" .u64 vG := Lib.tabIs_of_head (g := 5) (n := 20) ag ag Tryz.underlying326 Tryz.underlying200 ag ag j;unfold Lib.TabIs World.var? at b;have h : Tryz.prog.globalNamed "internal/strconv.uint64pow10" = some 5 := by kernel_rfl
 rw[h]at b;have a:((begin Tryz.prog (fun _ _=>0) default).world.heap[5]?).bind Obj.row?=some ((vG.map fun _=>Value.int .u64 0).toArray,326):=by kernel_rfl
 obtain⟨cs,e,_,_⟩:=i.1 5 _ 326 (by decide+kernel) a;simp only[Option.bind_some,e]at b;have d:cs=(vG.map fun z=>Value.int .u64 z).toArray:=Option.some.inj b;intro x c;have c:x=(5,.cells (AbJ [1,10,100,1000,10000,100000,1000000,10000000,100000000,1000000000,10000000000,100000000000,1000000000000,10000000000000,100000000000000,1000000000000000,10000000000000000,100000000000000000,1000000000000000000,10000000000000000000]) 326 (0,20)):=by
  simpa [Dr]using c
 subst c;unfold Mf;rw[e,d];rfl
open Go.Det Go.RowKit Go.ChangeShapes
def Nb(k:Nat):Value->V
 | .agg cs=>.agg<|cs.toList.map<|JM k
 |v=>JM k v
def gP(P:Program)(k:Nat)(t:TypeId):Option Sh:=
 match xE P k t with
 |some s=>match P.underlying t with
  |some (.struct _)=>bif s.Nf then some s else none
  |some (.int _)|some .bool|some .string|some (.slice _)=>bif s.Nf then none else some s
  |_=>none
 |none=>none
def jZ(P:Program)(t:TypeId):Option Sh:=
 match P.underlying t with
 |some (.array 2 e)=>match P.underlying e with
  |some (.int q)=>bif zi (P.cellsOf t) 2&&zi (P.cellsOf e) 1 then some (.pair (.int q)<|.int q)else none
  |_=>none
 |_=>none
def gX(P:Program)(k:Nat)(t:TypeId):Option Sh:=
 match jZ P t with
 |some s=>some s
 |none=>gP P k t
def NS(P:Program)(k:Nat):List TypeId->Option (List Sh)
 |[]=>some []
 |t::ts=>match gX P k t,NS P k ts with
  |some s,some a=>some (s::a)
  |_,_=>none
def wfL:(l:List Sh)->(Bz l).T->Prop
 |[],_=>True
 |[a],x=>Ss a x
 |a::b::l,x=>Ss a x.1/\wfL (b::l) x.2
section
variable {H:Type}{enc:TypeId×Value->H}{P:Program}{W:World}{base:Nat}
theorem one_cell{t:TypeId}{v:Value}(a:(∃k,P.underlying t=some (.int k))\/P.underlying t=some .bool\/P.underlying t=some .string\/∃e,P.underlying t=some (.slice e))(h:ze P W .any base t v):v.cells.toList=[v]/\∀cs,v≠ .agg cs:=by
 rcases a with⟨k,a⟩|a|a|⟨e,a⟩<;>
 (simp only[ze,a]at h
  unfold Cell.okWide at h;simp only[a]at h;unfold Cell.ok at h;simp only[a]at h;cases v<;>first|(exact⟨rfl,fun _ e=>by cases e⟩)|(exfalso;exact h))
theorem mU{t:TypeId}{s:Sh}{v:Value}{d:DataW H}{p:List MemPlace}(f:jZ P t=some s)(u:ze P W .any base t v)(h:DataW.Trod enc P W 0 (fun _=>true) true t v d p):
  (∃q,s=.pair (.int q) (.int q))/\∃x:s.T,PC (FW W) (BU s x) (Nb W.heap.size v)/\Ss s x/\Ab (pW W) (Nb W.heap.size v) v:=by
 unfold jZ at f;split at f
 case h_2=>cases f
 rename_i e r;split at f
 case h_2=>cases f
 rename_i q o;cases j:(zi (P.cellsOf t) 2&&zi (P.cellsOf e) 1)with
 |false=>rw[j]at f;cases f
 |true=>
 rw[j]at f;cases f;refine⟨⟨q,rfl⟩,?_⟩;rw[zf]at j;have C:=zc j.1;have B:=zc j.2;simp only[ze,r]at u;obtain⟨cs,rfl,i,_⟩:=u;obtain⟨fuel,c⟩:=h;have A:(Value.agg cs).cells.toList=cs.toList:=rfl;rw[A]at c;rw[C]at i;obtain⟨k,m,hl⟩:∃k m,cs.toList=[k,m]:=by
  match hh:cs.toList,(show cs.toList.length=2 by rw[Array.length_toList];exact i)with
  |[a,b],_=>exact⟨a,b,rfl⟩
 rw[hl]at c;cases fuel with
 |zero=>simp[zh]at c
 |succ n=>
  unfold zh at c;rw[r]at c;have r2:List.range 2=[0,1]:=rfl;simp[r2,B]at c;obtain⟨_,c⟩:=c;cases h0:zh enc P W 0 (fun _=>true) true n e [k]with
  |none=>simp[h0]at c
  |some E=>
   cases y:zh enc P W 0 (fun _=>true) true n e [m]with
   |none=>simp[h0,y]at c
   |some F=>
    obtain⟨n0,z0,_,w0⟩:=zn o h0;obtain⟨n1,z1,_,w1⟩:=zn o y;cases z0;cases z1;have w:DC (FW W) (.pair (.int q)<|.int q) ((n0:Int),(n1:Int)) (cs.toList.map<|JM W.heap.size):=by
     rw[hl];simp only[DC];exact⟨[JM W.heap.size<|.int q n0],[JM W.heap.size<|.int q n1],rfl,by simp[JM],by simp[JM]⟩
    refine⟨((n0:Int),(n1:Int)),(PC.BU w).1 rfl,⟨by simpa [Ss,Lit.wf]using w0,by simpa [Ss,Lit.wf]using w1⟩,?_⟩;simp only[Nb,Ab];refine⟨cs,rfl,?_⟩;have g:=w.ok;generalize cs.toList=l at g;induction l with
    |nil=>simp
    |cons a l D=>
     simp only[zk,Ba];exact⟨Lq (g _ (by simp)),D fun v z=>g v<|by simp only[zk,List.mem_cons];exact .inr z⟩
theorem EV:∀ {ts:List TypeId} {args:List Value} {ds:List (DataW H)} {p:List MemPlace},DataW.TrodAll enc P W 0 (fun _=>true) true ts args ds p->ds.length=ts.length
 |[],_,_,_,h=>by obtain⟨_,rfl,_⟩:=trodAll_nil h;rfl
 |t::ts,_,_,_,h=>by
  obtain⟨v0,a,e,c,p0,d,rfl,rfl,rfl,h0,b⟩:=trodAll_cons h;simp[EV b]
theorem uM{α:Type}{l:List α}(h:l.length=3):∃a b c,l=[a,b,c]:=by
 match l,h with
 |[a,b,c],_=>exact⟨a,b,c,rfl⟩
end
def oB:Sh->Nat
 | .str=>16
 | .list _=>24
 | .pair a b=>oB a+oB b
 | .unit=>0
 |_=>8
def Wt{H:Type}(P:Program)(t:TypeId)(d:DataW H):Prop:=∀n∈zg P t d,n<=reachBytes
def SY(P:Program):Nat->TypeId->Bool
 |0,_=>false
 |f+1,t=>match P.underlying t with
  |some (.slice e)=>SY P f e&&(match xE P f e with|some s=>zi (P.bytesOf e) (oB s)|none=>false)
  |some (.struct fs)=>fs.toList.all fun x=>SY P f x.type
  |_=>true
def VF:(s:Sh)->s.T->Prop
 | .list s,l=>(l:List s.T).length*oB s<=reachBytes/\∀x∈(l:List s.T),VF s x
 | .pair a b,x=>VF a x.1/\VF b x.2
 |_,_=>True
def Aa3:(l:List Sh)->(Bz l).T->Prop
 |[],_=>True
 |[a],x=>VF a x
 |a::b::l,x=>VF a x.1/\Aa3 (b::l) x.2
section
variable {H:Type}{enc:TypeId×Value->H}{P:Program}{W:World}{base:Nat}
theorem Aal{e:TypeId}{n:Nat}:∀ {l:List (DataW H)} {d:DataW H},d∈l->n∈zg P e d->n∈DataW.weightsAll P e l
 |x::l,d,a,b=>by
  rw[DataW.weightsAll,zj];rcases List.mem_cons.1 a with rfl|a
  ·grind
  ·exact .inr<|Aal a b
theorem tE{n:Nat}:∀ {ts:List TypeId} {l:List (DataW H)} {i:Nat} {t:TypeId} {d:DataW H},ts[i]?=some t->l[i]?=some d->n∈zg P t d->n∈zd P ts l
 |u::ts,x::l,0,t,d,a,c,b=>by
  grind [zd]
 |u::ts,x::l,i+1,t,d,a,c,b=>by
  rw[zd,zj];exact .inr (tE (i:=i) ah ah b)
 |[],_,_,_,_,a,_,_=>by grind
 |_::_,[],_,_,_,_,c,_=>by grind
theorem yO{n:Nat}:∀ {ts b:List TypeId} {ds es:List (DataW H)},ts.length=ds.length->n∈zd P ts ds->n∈zd P (ts++b) (ds++es)
 |t::ts,b,d::ds,es,h,a=>by
  rw[zd,zj]at a;rw[List.cons_append,List.cons_append,zd,zj];exact a.imp id fun x=>yO ah x
 |[],_,_,_,_,a=>by grind [zd]
 |_::_,_,[],_,h,_=>by simp at h
theorem yD{t e:TypeId}{el sp:List (DataW H)}(a:P.underlying t=some (.slice e))(h:Wt P t (.slice el sp)):(el.length+sp.length)*P.bytesOf e<=reachBytes:=by
 grind [zg,List.mem_cons_self,Wt]
theorem uG{t e:TypeId}{el sp:List (DataW H)}{d:DataW H}(a:P.underlying t=some (.slice e))(h:Wt P t (.slice el sp))(b:d∈el\/d∈sp):Wt P e d:=fun n c=>by
 refine h n ?_;grind [zg,Aal]
theorem pA{t:TypeId}{fs:Array Field}{l:List (DataW H)}{i:Nat}{f:Field}{d:DataW H}(a:P.underlying t=some (.struct fs))(h:Wt P t (.agg l))(c:fs[i]?=some f)(b:l[i]?=some d):Wt P f.type d:=fun n e=>by
 refine h n ?_;rw[zg,a];exact tE (i:=i) (t:=f.type) (by simp[c]) b e
theorem Ox{G:TypeId->DataW H->Prop}{f:TypeId->Option Sh}{n:Nat}{cs:List Value}
  (k:∀(t:TypeId) (s:Sh) (cs:List Value) (y:DataW H×List MemPlace),f t=some s->zh enc P W 0 (fun _=>true) true n t cs=some y->G t y.1->∃x:s.T,DC (FW W) s x (cs.map<|JM W.heap.size)/\Ss s x/\VF s x):
  ∀(fs:List Field) (o:Nat) (s:Sh),iY P f o fs=some s->(∀x∈fs,∃z,zh enc P W 0 (fun _=>true) true n x.type ((cs.drop x.offset).take<|P.cellsOf x.type)=some z/\G x.type z.1)->
   ∃x:s.T,DC (FW W) s x (((cs.map<|JM W.heap.size).drop o).take s.sz)/\Ss s x/\VF s x
 |[],o,s,c,_=>by
  cases c;exact⟨(),by rfl,trivial,trivial⟩
 |[x],o,s,c,i=>by
  unfold iY at c;split at c
  case h_2=>cases c
  rename_i h d;cases e:(zi x.offset o&&zi (P.cellsOf x.type) h.sz)with
  |false=>grind
  |true=>
  obtain⟨z,j,g⟩:=i x (by simp);grind [zc,zo,zp]
 |x::x'::l,o,s,c,i=>by
  unfold iY at c;split at c
  case h_2=>cases c
  rename_i h d;cases e:(zi x.offset o&&zi (P.cellsOf x.type) h.sz)with
  |false=>grind
  |true=>
  rw[e]at c;simp only[we,Option.map_eq_some_iff]at c;obtain⟨s2,m,rfl⟩:=c;simp only[zf]at e;obtain⟨z,j,g⟩:=i x (by simp);rw[zc e.1,zc e.2]at j;obtain⟨a,a1,a2,a3⟩:=k _ _ _ _ d j g;obtain⟨b,b1,b2,b3⟩:=Ox k (x'::l) (o+h.sz) s2 m (fun u p=>i u ah);refine⟨(a,b),?_,⟨a2,b2⟩,a3,b3⟩;refine⟨_,_,?_,a1,b1⟩;rw[zo,zp, <-List.drop_drop];exact List.take_add
theorem PF:∀(k r:Nat) (t:TypeId) (s:Sh) (cs:List Value) (y:DataW H×List MemPlace),xE P k t=some s->zh enc P W 0 (fun _=>true) true r t cs=some y->SY P k t=true->Wt P t y.1->
  ∃x:s.T,DC (FW W) s x (cs.map<|JM W.heap.size)/\Ss s x/\VF s x
 |0,_,_,_,_,_,m,_,_,_=>by cases m
 |k+1,r,t,s,cs,y,m,h,C,D=>by
  have ih:=PF k;unfold xE at m;split at m
  case h_1 q g=>
   cases m;obtain⟨n,rfl,_,S⟩:=zn g h;exact⟨(n:Int),by rfl,by grind [Ss,Lit.wf],trivial⟩
  case h_2 g=>
   cases m;obtain⟨b,rfl,_⟩:=DataW.trod_bool g h;exact⟨b,by rfl,trivial,trivial⟩
  case h_3 g=>
   cases m;obtain⟨b,rfl,_,S⟩:=DataW.trod_string g h;exact⟨b.data.toList,by rfl,by show b.data.toList.length<=maxLen;simp_all,trivial⟩
  case h_4 e g=>
   split at m
   case h_2=>cases m
   rename_i f A;cases E:(zi (P.cellsOf e) f.sz&&Nat.blt 0 f.sz)with
   |false=>grind
   |true=>
   rw[E]at m;cases m;simp only[zf]at E;have I:=zc E.1;have M:=Nat.le_of_ble_eq_true E.2;rcases DataW.trod_slice g h with⟨rfl,_⟩|⟨a,len,cap,v,L,n,rfl,rfl,V,_,hlc,hcm,Z,Y,N,_⟩
   ·exact⟨[],by simp[DC,JM],by simp[Ss],by simp[VF]⟩
   ·obtain⟨hrl,N⟩:=N rfl;rw[V]at D;have D:Wt P t (.slice (v.map (·.1)) (L.map (·.1))):=D;unfold SY at C;rw[g]at C;simp only[A,zf]at C;obtain⟨C,F⟩:=C;have F:=zc F;rw[I]at Y N;by_cases h0:cap=0
    ·obtain rfl:len=0:=ae
     subst h0;exact⟨[],by simp[DC,JM],by simp[Ss],by simp[VF]⟩
    ·
     have all:∀i,i<cap->∃B z,W.cells? 0 (a.add<|i*f.sz) f.sz=some B/\zh enc P W 0 (fun _=>true) true n e B=some z/\Wt P e z.1:=by
      intro i K;by_cases hl:i<len
      ·have j:=Y i hl;rw[zl ae]at j;rw[zm]at j;obtain⟨B,w,u⟩:=j;exact⟨B,_,w,u,uG g D ah⟩
      ·have j:=N (i-len) ae;rw[show len+(i-len)=i by omega,zl ae]at j;rw[zm]at j;obtain⟨B,w,u⟩:=j;exact⟨B,_,w,u,uG g D ah⟩
     obtain⟨c0,z0,X,_,_⟩:=all 0 ae;rw[Nat.zero_mul,show a.add 0=a from by rfl]at X;obtain⟨c,tc,fz,hb,hsp,hoff,_⟩:=QP X M;have O:a.block<W.heap.size:=ah;have U:=jH hb ae;obtain⟨ab,ao,ax⟩:=a;simp only at hsp hb hoff O U;subst hsp;have o:∀i,i<cap->ao+i*f.sz+f.sz<=c.size/\∃x:f.T,DC (FW W) f x (((c.toList.map<|JM W.heap.size).drop<|ao+i*f.sz).take f.sz)/\Ss f x/\VF f x:=by
      intro i K;obtain⟨B,z,j,w,hz⟩:=all i K;rw[Addr.Mh]at j;obtain⟨c',tc',fz',hb',_,ho',rfl⟩:=QP j ae;grind [zo,zp]
     obtain⟨l,J,hl2⟩:=Yz (p:=fun i (x:f.T)=>DC (FW W) f x (((c.toList.map<|JM W.heap.size).drop<|ao+i*f.sz).take f.sz)/\Ss f x/\VF f x) len fun i K=>(o i ae).2
     refine⟨l,?_,?_,?_⟩
     ·simp only[DC];refine⟨.sl ab ao len cap 0,?_,.inr ⟨ab,ao,cap,0,_,by rw[J],by omega,U,?_,.inl rfl,ah⟩⟩
      ·simp_all [JM]
      ·rw[J];have:=(o (cap-1) ae).1;have u:cap*f.sz=(cap-1)*f.sz+f.sz:=by rw[<-Nat.succ_mul];grind
       grind
     ·refine⟨by omega,fun x Q=>?_⟩;obtain⟨i,K,rfl⟩:=List.mem_iff_getElem.1 Q;grind
     ·refine⟨?_,fun x Q=>?_⟩
      ·have S:=yD g D;grind
      ·obtain⟨i,K,rfl⟩:=List.mem_iff_getElem.1 Q;grind
  case h_5 fs g=>
   split at m
   case h_2=>cases m
   rename_i f A;cases E:zi (P.cellsOf t) f.sz with
   |false=>grind
   |true=>
   have I:=zc E;obtain⟨xs,n,rfl,V,R,hxl,hf⟩:=DataW.trod_struct g h;unfold SY at C;obtain⟨x,j,w,u⟩:=Ox (G:=fun t d=>SY P k t=true/\Wt P t d) (cs:=cs) (fun t s cs y j w u=>ih n t s cs y j w u.1 u.2) fs.toList 0 _ A (by grind [List.mem_iff_getElem?,pA]);grind [List.take_of_length_le]
  grind
theorem lL{k:Nat}{t:TypeId}{s:Sh}{v:Value}{d:DataW H}{p:List MemPlace}(e:xE P k t=some s)(f:s.Nf=false)(c:v.cells.toList=[v])(h:DataW.Trod enc P W 0 (fun _=>true) true t v d p)(g:SY P k t=true)(i:Wt P t d):
  ∃x:s.T,PC (FW W) (BU s x) (JM W.heap.size v)/\(Ss s x/\VF s x)/\Ab (pW W) (JM W.heap.size v) v:=by
 obtain⟨a,b⟩:=h;rw[c]at b;obtain⟨x,h1,h2⟩:=PF k a t s [v] (d,p) e b g i;exact⟨x,(PC.BU h1).2 f _ rfl,h2,Lq<|h1.ok _<|by simp⟩
theorem dX{k:Nat}{t:TypeId}{s:Sh}{v:Value}{d:DataW H}{p:List MemPlace}(b:gX P k t=some s)(i:ze P W .any base t v)(h:DataW.Trod enc P W 0 (fun _=>true) true t v d p)(r:SY P k t=true)(u:Wt P t d):
  ∃x:s.T,PC (FW W) (BU s x) (Nb W.heap.size v)/\(Ss s x/\VF s x)/\Ab (pW W) (Nb W.heap.size v) v:=by
 unfold gX at b;split at b
 case h_1=>
  rename_i s1 c;cases b;obtain⟨⟨q,rfl⟩,x,a1,a2,a3⟩:=mU c i h;exact⟨x,a1,⟨a2,trivial,trivial⟩,a3⟩
 unfold gP at b;split at b
 case h_2=>cases b
 rename_i g m;have plain:((∃k,P.underlying t=some (.int k))\/P.underlying t=some .bool\/P.underlying t=some .string\/∃e,P.underlying t=some (.slice e))->(bif g.Nf then none else some g)=some s->∃x:s.T,PC (FW W) (BU s x) (Nb W.heap.size v)/\(Ss s x/\VF s x)/\Ab (pW W) (Nb W.heap.size v) v:=by
  intro o y;cases j:g.Nf with
  |true=>grind
  |false=>
   obtain⟨c,n⟩:=one_cell o i;have e:Nb W.heap.size v=JM W.heap.size v:=by
    simp_all [Nb]
   grind [lL]
 split at b
 case h_1=>
  rename_i fs w;cases j:g.Nf with
  |false=>grind
  |true=>
   rw[j]at b;cases b;simp only[ze,w]at i;obtain⟨cs,rfl,_,_⟩:=i;obtain⟨fuel,hf⟩:=h;obtain⟨x,c,n⟩:=PF k fuel t s _ (d,p) m hf r u;refine⟨x,(PC.BU c).1 j,n,?_⟩;refine⟨cs,rfl,?_⟩;have f:=c.ok;have e:(Value.agg cs).cells.toList=cs.toList:=rfl;rw[e]at f;generalize cs.toList=l at f;induction l with
   |nil=>simp
   |cons a l z=>
    grind [Ba,Lq]
 case h_2=>simp_all
 case h_3=>grind
 case h_4=>grind
 case h_5=>simp_all
 grind
theorem Ms{k:Nat}:∀ {ts:List TypeId} {a:List Sh} {args:List Value} {ds:List (DataW H)} {p:List MemPlace},NS P k ts=some a->(∀(j:Nat) t v,ts[j]?=some t->args[j]?=some v->ze P W .any base t v)->
  DataW.TrodAll enc P W 0 (fun _=>true) true ts args ds p->(ts.all<|SY P k)=true->(∀n∈zd P ts ds,n<=reachBytes)->∃x:(Bz a).T,Kj (FW W) (Ae a x) (args.map<|Nb W.heap.size)/\(wfL a x/\Aa3 a x)/\Ar (pW W) (args.map<|Nb W.heap.size) args
 |[],a,args,ds,p,b,_,h,_,_=>by
  cases b;obtain⟨rfl,rfl,rfl⟩:=trodAll_nil h;exact⟨(),fun ρ N=>by rfl,⟨trivial,trivial⟩,by simp⟩
 |t::ts,a,args,ds,p,b,i,h,d,m=>by
  unfold NS at b;split at b
  case h_2=>cases b
  rename_i s e o r;cases b;obtain⟨v0,c,A,w,p0,z,rfl,rfl,rfl,h0,q⟩:=trodAll_cons h;rw[List.all_cons,zf]at d;rw[zd]at m;obtain⟨x,a1,a2,a3⟩:=dX o (i 0 t v0 rfl rfl) h0 d.1 (fun n B=>(by simp_all));obtain⟨y,b1,b2,b3⟩:=Ms r (fun j t v l f=>i (j+1) t v l f) q d.2 (by simp_all);have g:Ar (pW W) ((v0::c).map<|Nb W.heap.size) (v0::c):=by simp_all
  cases e with
  |nil=>exact⟨x,fun ρ N=>by
    have:=b1 ρ N;simp only[Ae,DH]at this;simp only[zk,Ae,this,BB,DH,ve];exact a1 ρ N,a2,g⟩
  |cons s2 u=>exact⟨(x,y),fun ρ N=>by
    simp only[zk,Ae,BB];exact⟨a1 ρ N,b1 ρ N⟩,⟨⟨a2.1,b2.1⟩,a2.2,b2.2⟩,g⟩
end
end Go.Pe
