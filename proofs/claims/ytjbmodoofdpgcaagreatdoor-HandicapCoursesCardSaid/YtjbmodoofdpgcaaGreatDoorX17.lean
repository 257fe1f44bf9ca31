import Derived.Test.YtjbmodoofdpgcaaGreatDoorX15
import Derived.Stop.LaidErr
import Derived.ChangeShapes
/- A part of a proof; no law is stated here. -/
noncomputable section
open Nat renaming eq_of_beq_eq_true -> zc, beq -> zi
open Go.DataW renaming weightsEach -> zd, weights -> zg, trod -> zh, trod_int -> zn
open Go.Value renaming okWide -> ze
open Bool renaming and_eq_true -> zf
open List renaming mem_append -> zj, map_cons -> zk, getElem?_eq_getElem -> zl, map_take -> zo, map_drop -> zp
open Option renaming bind_eq_some_iff -> zm
namespace Go.Pe
open Go.Det Go.RowKit
open Go.Proofs Go.Proofs.YtjbmodoofdpgcaaGreatDoor
abbrev tT:List Int:=[1,10,100,1000,10000,100000,1000000,10000000,100000000,1000000000,10000000000,100000000000,1000000000000,10000000000000,100000000000000,1000000000000000,10000000000000000,100000000000000000,1000000000000000000,10000000000000000000]
theorem wB{W:World}(e:laidMetH Tryz.prog YN W)(h:W.ShapedOpen Tryz.prog):GW W:=by
 rw[MakeChecks.laidMetH_plain _ _ _ ag]at e;have j:=e.tail.tail;have b : Lib.TabIs Tryz.prog W "internal/strconv.uint64pow10" .u64 tT := Lib.tabIs_of_head (g := 5) (n := 20) ag ag Tryz.underlying326 Tryz.underlying200 ag ag j;unfold Lib.TabIs World.var? at b;have i : Tryz.prog.globalNamed "internal/strconv.uint64pow10" = some 5 := by kernel_rfl
 rw[i]at b;have a:((begin Tryz.prog (fun _ _=>0) default).world.heap[5]?).bind Obj.row?=some ((tT.map fun _=>Value.int .u64 0).toArray,326):=by kernel_rfl
 obtain⟨cs,f,_,_⟩:=h.1 5 _ 326 (by decide+kernel) a;simp only[Option.bind_some,f]at b;have d:cs=(tT.map fun z=>Value.int .u64 z).toArray:=Option.some.inj b;intro x c;have c:x=(5,.cells (wP [1,10,100,1000,10000,100000,1000000,10000000,100000000,1000000000,10000000000,100000000000,1000000000000,10000000000000,100000000000000,1000000000000000,10000000000000000,100000000000000000,1000000000000000000,10000000000000000000]) 326 (0,20)):=by
  simpa [C8]using c
 subst c;unfold Lc;rw[f,d];rfl
open Go.Det Go.RowKit Go.ChangeShapes
def Me(k:Nat):Value->V
 | .agg cs=>.agg<|cs.toList.map<|Jm k
 |v=>Jm k v
def Z4(P:Program)(k:Nat)(t:TypeId):Option Sh:=
 match qP P k t with
 |some s=>match P.underlying t with
  |some (.struct _)=>bif s.MF then some s else none
  |some (.int _)|some .bool|some .string|some (.slice _)=>bif s.MF then none else some s
  |_=>none
 |none=>none
def Zz(P:Program)(t:TypeId):Option Sh:=
 match P.underlying t with
 |some (.array 2 e)=>match P.underlying e with
  |some (.int q)=>bif zi (P.cellsOf t) 2&&zi (P.cellsOf e) 1 then some (.pair (.int q)<|.int q)else none
  |_=>none
 |_=>none
def cZ(P:Program)(k:Nat)(t:TypeId):Option Sh:=
 match Zz P t with
 |some s=>some s
 |none=>Z4 P k t
def Rz(P:Program)(k:Nat):List TypeId->Option (List Sh)
 |[]=>some []
 |t::ts=>match cZ P k t,Rz P k ts with
  |some s,some a=>some (s::a)
  |_,_=>none
def wfL:(l:List Sh)->(Bv l).T->Prop
 |[],_=>True
 |[a],x=>Q2 a x
 |a::b::l,x=>Q2 a x.1/\wfL (b::l) x.2
section
variable {H:Type}{enc:TypeId×Value->H}{P:Program}{W:World}{base:Nat}
theorem one_cell{t:TypeId}{v:Value}(a:(∃k,P.underlying t=some (.int k))\/P.underlying t=some .bool\/P.underlying t=some .string\/∃e,P.underlying t=some (.slice e))(h:ze P W .any base t v):v.cells.toList=[v]/\∀cs,v≠ .agg cs:=by
 rcases a with⟨k,a⟩|a|a|⟨e,a⟩<;>
 (simp only[ze,a]at h
  unfold Cell.okWide at h;simp only[a]at h;unfold Cell.ok at h;simp only[a]at h;cases v<;>first|(exact⟨rfl,fun _ e=>by cases e⟩)|(exfalso;exact h))
theorem mQ{t:TypeId}{s:Sh}{v:Value}{d:DataW H}{p:List MemPlace}(f:Zz P t=some s)(y:ze P W .any base t v)(h:DataW.Trod enc P W 0 (fun _=>true) true t v d p):
  (∃q,s=.pair (.int q) (.int q))/\∃x:s.T,PC (FW W) (BN s x) (Me W.heap.size v)/\Q2 s x/\Ab (pW W) (Me W.heap.size v) v:=by
 unfold Zz at f;split at f
 case h_2=>cases f
 rename_i e r;split at f
 case h_2=>cases f
 rename_i q u;cases j:(zi (P.cellsOf t) 2&&zi (P.cellsOf e) 1)with
 |false=>rw[j]at f;cases f
 |true=>
 rw[j]at f;cases f;refine⟨⟨q,rfl⟩,?_⟩;rw[zf]at j;have A:=zc j.1;have D:=zc j.2;simp only[ze,r]at y;obtain⟨cs,rfl,i,_⟩:=y;obtain⟨fuel,c⟩:=h;have C:(Value.agg cs).cells.toList=cs.toList:=rfl;rw[C]at c;rw[A]at i;obtain⟨m,k,hl⟩:∃m k,cs.toList=[m,k]:=by
  match hh:cs.toList,(show cs.toList.length=2 by rw[Array.length_toList];exact i)with
  |[a,b],_=>exact⟨a,b,rfl⟩
 rw[hl]at c;cases fuel with
 |zero=>simp[zh]at c
 |succ n=>
  unfold zh at c;rw[r]at c;have r2:List.range 2=[0,1]:=rfl;simp[r2,D]at c;obtain⟨_,c⟩:=c;cases h0:zh enc P W 0 (fun _=>true) true n e [m]with
  |none=>simp[h0]at c
  |some F=>
   cases o:zh enc P W 0 (fun _=>true) true n e [k]with
   |none=>simp[h0,o]at c
   |some E=>
    obtain⟨n0,z0,_,w0⟩:=zn u h0;obtain⟨n1,z1,_,w1⟩:=zn u o;cases z0;cases z1;have w:DC (FW W) (.pair (.int q)<|.int q) ((n0:Int),(n1:Int)) (cs.toList.map<|Jm W.heap.size):=by
     rw[hl];simp only[DC];exact⟨[Jm W.heap.size<|.int q n0],[Jm W.heap.size<|.int q n1],rfl,by simp[Jm],by simp[Jm]⟩
    refine⟨((n0:Int),(n1:Int)),(PC.BN w).1 rfl,⟨by simpa [Q2,Lit.wf]using w0,by simpa [Q2,Lit.wf]using w1⟩,?_⟩;simp only[Me,Ab];refine⟨cs,rfl,?_⟩;have g:=w.ok;generalize cs.toList=l at g;induction l with
    |nil=>simp
    |cons a l B=>
     simp only[zk,A4];exact⟨Kq (g _ (by simp)),B fun v z=>g v<|by simp only[zk,List.mem_cons];exact .inr z⟩
theorem HS:∀ {ts:List TypeId} {args:List Value} {ds:List (DataW H)} {p:List MemPlace},DataW.TrodAll enc P W 0 (fun _=>true) true ts args ds p->ds.length=ts.length
 |[],_,_,_,h=>by obtain⟨_,rfl,_⟩:=trodAll_nil h;rfl
 |t::ts,_,_,_,h=>by
  obtain⟨v0,b,e,c,p0,d,rfl,rfl,rfl,h0,a⟩:=trodAll_cons h;simp[HS a]
theorem uR{α:Type}{l:List α}(h:l.length=3):∃a b c,l=[a,b,c]:=by
 match l,h with
 |[a,b,c],_=>exact⟨a,b,c,rfl⟩
end
def kR:Sh->Nat
 | .str=>16
 | .list _=>24
 | .pair a b=>kR a+kR b
 | .unit=>0
 |_=>8
def Wt{H:Type}(P:Program)(t:TypeId)(d:DataW H):Prop:=∀n∈zg P t d,n<=reachBytes
def P9(P:Program):Nat->TypeId->Bool
 |0,_=>false
 |f+1,t=>match P.underlying t with
  |some (.slice e)=>P9 P f e&&(match qP P f e with|some s=>zi (P.bytesOf e) (kR s)|none=>false)
  |some (.struct fs)=>fs.toList.all fun x=>P9 P f x.type
  |_=>true
def Ui:(s:Sh)->s.T->Prop
 | .list s,l=>(l:List s.T).length*kR s<=reachBytes/\∀x∈(l:List s.T),Ui s x
 | .pair a b,x=>Ui a x.1/\Ui b x.2
 |_,_=>True
def wN:(l:List Sh)->(Bv l).T->Prop
 |[],_=>True
 |[a],x=>Ui a x
 |a::b::l,x=>Ui a x.1/\wN (b::l) x.2
section
variable {H:Type}{enc:TypeId×Value->H}{P:Program}{W:World}{base:Nat}
theorem xZ{e:TypeId}{n:Nat}:∀ {l:List (DataW H)} {d:DataW H},d∈l->n∈zg P e d->n∈DataW.weightsAll P e l
 |x::l,d,a,b=>by
  rw[DataW.weightsAll,zj];rcases List.mem_cons.1 a with rfl|a
  ·grind
  ·exact .inr<|xZ a b
theorem nO{n:Nat}:∀ {ts:List TypeId} {l:List (DataW H)} {i:Nat} {t:TypeId} {d:DataW H},ts[i]?=some t->l[i]?=some d->n∈zg P t d->n∈zd P ts l
 |u::ts,x::l,0,t,d,a,b,c=>by
  grind [zd]
 |u::ts,x::l,i+1,t,d,a,b,c=>by
  rw[zd,zj];exact .inr (nO (i:=i) ah ah c)
 |[],_,_,_,_,a,_,_=>by grind
 |_::_,[],_,_,_,_,b,_=>by grind
theorem uV{n:Nat}:∀ {ts b:List TypeId} {ds es:List (DataW H)},ts.length=ds.length->n∈zd P ts ds->n∈zd P (ts++b) (ds++es)
 |t::ts,b,d::ds,es,h,a=>by
  rw[zd,zj]at a;rw[List.cons_append,List.cons_append,zd,zj];exact a.imp id fun x=>uV ah x
 |[],_,_,_,_,a=>by grind [zd]
 |_::_,_,[],_,h,_=>by simp at h
theorem rO{t e:TypeId}{el sp:List (DataW H)}(a:P.underlying t=some (.slice e))(h:Wt P t (.slice el sp)):(el.length+sp.length)*P.bytesOf e<=reachBytes:=by
 grind [zg,List.mem_cons_self,Wt]
theorem nP{t e:TypeId}{el sp:List (DataW H)}{d:DataW H}(b:P.underlying t=some (.slice e))(h:Wt P t (.slice el sp))(a:d∈el\/d∈sp):Wt P e d:=fun n c=>by
 refine h n ?_;grind [zg,xZ]
theorem jT{t:TypeId}{fs:Array Field}{l:List (DataW H)}{i:Nat}{f:Field}{d:DataW H}(b:P.underlying t=some (.struct fs))(h:Wt P t (.agg l))(e:fs[i]?=some f)(a:l[i]?=some d):Wt P f.type d:=fun n c=>by
 refine h n ?_;rw[zg,b];exact nO (i:=i) (t:=f.type) (by simp[e]) a c
theorem Ni{G:TypeId->DataW H->Prop}{f:TypeId->Option Sh}{n:Nat}{cs:List Value}
  (k:∀(t:TypeId) (s:Sh) (cs:List Value) (y:DataW H×List MemPlace),f t=some s->zh enc P W 0 (fun _=>true) true n t cs=some y->G t y.1->∃x:s.T,DC (FW W) s x (cs.map<|Jm W.heap.size)/\Q2 s x/\Ui s x):
  ∀(fs:List Field) (o:Nat) (s:Sh),aJ P f o fs=some s->(∀x∈fs,∃z,zh enc P W 0 (fun _=>true) true n x.type ((cs.drop x.offset).take<|P.cellsOf x.type)=some z/\G x.type z.1)->
   ∃x:s.T,DC (FW W) s x (((cs.map<|Jm W.heap.size).drop o).take s.sz)/\Q2 s x/\Ui s x
 |[],o,s,c,_=>by
  cases c;exact⟨(),by rfl,trivial,trivial⟩
 |[x],o,s,c,i=>by
  unfold aJ at c;split at c
  case h_2=>cases c
  rename_i h d;cases g:(zi x.offset o&&zi (P.cellsOf x.type) h.sz)with
  |false=>grind
  |true=>
  obtain⟨z,j,e⟩:=i x (by simp);grind [zc,zo,zp]
 |x::x'::l,o,s,c,i=>by
  unfold aJ at c;split at c
  case h_2=>cases c
  rename_i h d;cases g:(zi x.offset o&&zi (P.cellsOf x.type) h.sz)with
  |false=>grind
  |true=>
  rw[g]at c;simp only[we,Option.map_eq_some_iff]at c;obtain⟨s2,m,rfl⟩:=c;simp only[zf]at g;obtain⟨z,j,e⟩:=i x (by simp);rw[zc g.1,zc g.2]at j;obtain⟨a,a1,a2,a3⟩:=k _ _ _ _ d j e;obtain⟨b,b1,b2,b3⟩:=Ni k (x'::l) (o+h.sz) s2 m (fun u p=>i u ah);refine⟨(a,b),?_,⟨a2,b2⟩,a3,b3⟩;refine⟨_,_,?_,a1,b1⟩;rw[zo,zp, <-List.drop_drop];exact List.take_add
theorem NT:∀(k u:Nat) (t:TypeId) (s:Sh) (cs:List Value) (y:DataW H×List MemPlace),qP P k t=some s->zh enc P W 0 (fun _=>true) true u t cs=some y->P9 P k t=true->Wt P t y.1->
  ∃x:s.T,DC (FW W) s x (cs.map<|Jm W.heap.size)/\Q2 s x/\Ui s x
 |0,_,_,_,_,_,g,_,_,_=>by cases g
 |k+1,u,t,s,cs,y,g,h,D,C=>by
  have ih:=NT k;unfold qP at g;split at g
  case h_1 q m=>
   cases g;obtain⟨n,rfl,_,V⟩:=zn m h;exact⟨(n:Int),by rfl,by grind [Q2,Lit.wf],trivial⟩
  case h_2 m=>
   cases g;obtain⟨b,rfl,_⟩:=DataW.trod_bool m h;exact⟨b,by rfl,trivial,trivial⟩
  case h_3 m=>
   cases g;obtain⟨b,rfl,_,V⟩:=DataW.trod_string m h;exact⟨b.data.toList,by rfl,by show b.data.toList.length<=maxLen;simp_all,trivial⟩
  case h_4 e m=>
   split at g
   case h_2=>cases g
   rename_i f w;cases E:(zi (P.cellsOf e) f.sz&&Nat.blt 0 f.sz)with
   |false=>grind
   |true=>
   rw[E]at g;cases g;simp only[zf]at E;have L:=zc E.1;have M:=Nat.le_of_ble_eq_true E.2;rcases DataW.trod_slice m h with⟨rfl,_⟩|⟨a,len,cap,B,J,n,rfl,rfl,S,_,hlc,Z,hel,Y,N,_⟩
   ·exact⟨[],by simp[DC,Jm],by simp[Q2],by simp[Ui]⟩
   ·obtain⟨hrl,N⟩:=N rfl;rw[S]at C;have C:Wt P t (.slice (B.map (·.1)) (J.map (·.1))):=C;unfold P9 at D;rw[m]at D;simp only[w,zf]at D;obtain⟨D,I⟩:=D;have I:=zc I;rw[L]at Y N;by_cases h0:cap=0
    ·obtain rfl:len=0:=ae
     subst h0;exact⟨[],by simp[DC,Jm],by simp[Q2],by simp[Ui]⟩
    ·
     have all:∀i,i<cap->∃v z,W.cells? 0 (a.add<|i*f.sz) f.sz=some v/\zh enc P W 0 (fun _=>true) true n e v=some z/\Wt P e z.1:=by
      intro i F;by_cases hl:i<len
      ·have j:=Y i hl;rw[zl ae]at j;rw[zm]at j;obtain⟨v,A,r⟩:=j;exact⟨v,_,A,r,nP m C ah⟩
      ·have j:=N (i-len) ae;rw[show len+(i-len)=i by omega,zl ae]at j;rw[zm]at j;obtain⟨v,A,r⟩:=j;exact⟨v,_,A,r,nP m C ah⟩
     obtain⟨c0,z0,R,_,_⟩:=all 0 ae;rw[Nat.zero_mul,show a.add 0=a from by rfl]at R;obtain⟨c,tc,fz,hb,hsp,hoff,_⟩:=Pm R M;have Q:a.block<W.heap.size:=ah;have X:=fG hb ae;obtain⟨ab,ao,ax⟩:=a;simp only at hsp hb hoff Q X;subst hsp;have o:∀i,i<cap->ao+i*f.sz+f.sz<=c.size/\∃x:f.T,DC (FW W) f x (((c.toList.map<|Jm W.heap.size).drop<|ao+i*f.sz).take f.sz)/\Q2 f x/\Ui f x:=by
      intro i F;obtain⟨v,z,j,A,hz⟩:=all i F;rw[Addr.Ly]at j;obtain⟨c',tc',fz',hb',_,ho',rfl⟩:=Pm j ae;grind [zo,zp]
     obtain⟨l,K,hl2⟩:=Wo (p:=fun i (x:f.T)=>DC (FW W) f x (((c.toList.map<|Jm W.heap.size).drop<|ao+i*f.sz).take f.sz)/\Q2 f x/\Ui f x) len fun i F=>(o i ae).2
     refine⟨l,?_,?_,?_⟩
     ·simp only[DC];refine⟨.sl ab ao len cap 0,?_,.inr ⟨ab,ao,cap,0,_,by rw[K],by omega,X,?_,.inl rfl,ah⟩⟩
      ·simp_all [Jm]
      ·rw[K];have:=(o (cap-1) ae).1;have r:cap*f.sz=(cap-1)*f.sz+f.sz:=by rw[<-Nat.succ_mul];grind
       grind
     ·refine⟨by omega,fun x O=>?_⟩;obtain⟨i,F,rfl⟩:=List.mem_iff_getElem.1 O;grind
     ·refine⟨?_,fun x O=>?_⟩
      ·have V:=rO m C;grind
      ·obtain⟨i,F,rfl⟩:=List.mem_iff_getElem.1 O;grind
  case h_5 fs m=>
   split at g
   case h_2=>cases g
   rename_i f w;cases E:zi (P.cellsOf t) f.sz with
   |false=>grind
   |true=>
   have L:=zc E;obtain⟨xs,n,rfl,S,U,hxl,hf⟩:=DataW.trod_struct m h;unfold P9 at D;obtain⟨x,j,A,r⟩:=Ni (G:=fun t d=>P9 P k t=true/\Wt P t d) (cs:=cs) (fun t s cs y j A r=>ih n t s cs y j A r.1 r.2) fs.toList 0 _ w (by grind [List.mem_iff_getElem?,jT]);grind [List.take_of_length_le]
  grind
theorem fQ{k:Nat}{t:TypeId}{s:Sh}{v:Value}{d:DataW H}{p:List MemPlace}(e:qP P k t=some s)(i:s.MF=false)(g:v.cells.toList=[v])(h:DataW.Trod enc P W 0 (fun _=>true) true t v d p)(f:P9 P k t=true)(c:Wt P t d):
  ∃x:s.T,PC (FW W) (BN s x) (Jm W.heap.size v)/\(Q2 s x/\Ui s x)/\Ab (pW W) (Jm W.heap.size v) v:=by
 obtain⟨a,b⟩:=h;rw[g]at b;obtain⟨x,h1,h2⟩:=NT k a t s [v] (d,p) e b f c;exact⟨x,(PC.BN h1).2 i _ rfl,h2,Kq<|h1.ok _<|by simp⟩
theorem cY{k:Nat}{t:TypeId}{s:Sh}{v:Value}{d:DataW H}{p:List MemPlace}(b:cZ P k t=some s)(i:ze P W .any base t v)(h:DataW.Trod enc P W 0 (fun _=>true) true t v d p)(o:P9 P k t=true)(r:Wt P t d):
  ∃x:s.T,PC (FW W) (BN s x) (Me W.heap.size v)/\(Q2 s x/\Ui s x)/\Ab (pW W) (Me W.heap.size v) v:=by
 unfold cZ at b;split at b
 case h_1=>
  rename_i s1 f;cases b;obtain⟨⟨q,rfl⟩,x,a1,a2,a3⟩:=mQ f i h;exact⟨x,a1,⟨a2,trivial,trivial⟩,a3⟩
 unfold Z4 at b;split at b
 case h_2=>cases b
 rename_i g j;have plain:((∃k,P.underlying t=some (.int k))\/P.underlying t=some .bool\/P.underlying t=some .string\/∃e,P.underlying t=some (.slice e))->(bif g.MF then none else some g)=some s->∃x:s.T,PC (FW W) (BN s x) (Me W.heap.size v)/\(Q2 s x/\Ui s x)/\Ab (pW W) (Me W.heap.size v) v:=by
  intro u z;cases m:g.MF with
  |true=>grind
  |false=>
   obtain⟨f,n⟩:=one_cell u i;have e:Me W.heap.size v=Jm W.heap.size v:=by
    simp_all [Me]
   grind [fQ]
 split at b
 case h_1=>
  rename_i fs w;cases m:g.MF with
  |false=>grind
  |true=>
   rw[m]at b;cases b;simp only[ze,w]at i;obtain⟨cs,rfl,_,_⟩:=i;obtain⟨fuel,hf⟩:=h;obtain⟨x,f,n⟩:=NT k fuel t s _ (d,p) j hf o r;refine⟨x,(PC.BN f).1 m,n,?_⟩;refine⟨cs,rfl,?_⟩;have c:=f.ok;have e:(Value.agg cs).cells.toList=cs.toList:=rfl;rw[e]at c;generalize cs.toList=l at c;induction l with
   |nil=>simp
   |cons a l y=>
    grind [A4,Kq]
 case h_2=>simp_all
 case h_3=>grind
 case h_4=>grind
 case h_5=>simp_all
 grind
theorem P4{k:Nat}:∀ {ts:List TypeId} {a:List Sh} {args:List Value} {ds:List (DataW H)} {p:List MemPlace},Rz P k ts=some a->(∀(j:Nat) t v,ts[j]?=some t->args[j]?=some v->ze P W .any base t v)->
  DataW.TrodAll enc P W 0 (fun _=>true) true ts args ds p->(ts.all<|P9 P k)=true->(∀n∈zd P ts ds,n<=reachBytes)->∃x:(Bv a).T,JF (FW W) (Af a x) (args.map<|Me W.heap.size)/\(wfL a x/\wN a x)/\An (pW W) (args.map<|Me W.heap.size) args
 |[],a,args,ds,p,b,_,h,_,_=>by
  cases b;obtain⟨rfl,rfl,rfl⟩:=trodAll_nil h;exact⟨(),fun ρ N=>by rfl,⟨trivial,trivial⟩,by simp⟩
 |t::ts,a,args,ds,p,b,g,h,d,o=>by
  unfold Rz at b;split at b
  case h_2=>cases b
  rename_i s e w q;cases b;obtain⟨v0,c,A,m,p0,z,rfl,rfl,rfl,h0,l⟩:=trodAll_cons h;rw[List.all_cons,zf]at d;rw[zd]at o;obtain⟨x,a1,a2,a3⟩:=cY w (g 0 t v0 rfl rfl) h0 d.1 (fun n B=>(by simp_all));obtain⟨y,b1,b2,b3⟩:=P4 q (fun j t v r f=>g (j+1) t v r f) l d.2 (by simp_all);have i:An (pW W) ((v0::c).map<|Me W.heap.size) (v0::c):=by simp_all
  cases e with
  |nil=>exact⟨x,fun ρ N=>by
    have:=b1 ρ N;simp only[Af,Dp]at this;simp only[zk,Af,this,By,Dp,ve];exact a1 ρ N,a2,i⟩
  |cons s2 u=>exact⟨(x,y),fun ρ N=>by
    simp only[zk,Af,By];exact⟨a1 ρ N,b1 ρ N⟩,⟨⟨a2.1,b2.1⟩,a2.2,b2.2⟩,i⟩
end
end Go.Pe
