import Derived.Test.YtobmcolckeoejaaGreatDoorX17
import Derived.Stop.LaidErr
import Derived.ChangeShapes
/- A part of a proof; no law is stated here. -/
noncomputable section
open Nat renaming eq_of_beq_eq_true -> zc, beq -> zi
open Go.DataW renaming weightsEach -> zd, weights -> zg, trod -> zh, trod_int -> zn
open Go.Value renaming okWide -> ze
open Bool renaming and_eq_true -> zf
open List renaming mem_append -> zj, map_cons -> zk, getElem?_eq_getElem -> zl, map_take -> zo, map_drop -> zp
open Option renaming bind_eq_some_iff -> zm
namespace Go.Pe
open Go.Det Go.RowKit
open Go.Proofs Go.Proofs.YtobmcolckeoejaaGreatDoor
abbrev AcI:List Int:=[1,10,100,1000,10000,100000,1000000,10000000,100000000,1000000000,10000000000,100000000000,1000000000000,10000000000000,100000000000000,1000000000000000,10000000000000000,100000000000000000,1000000000000000000,10000000000000000000]
theorem Abw{W:World}(e:laidMetH Tryz.prog mT W)(i:W.ShapedOpen Tryz.prog):GW W:=by
 rw[MakeChecks.laidMetH_plain _ _ _ ag]at e;have h:=e.tail.tail;have b : Lib.TabIs Tryz.prog W "internal/strconv.uint64pow10" .u64 AcI := Lib.tabIs_of_head (g := 5) (n := 20) ag ag Tryz.underlying279 Tryz.underlying185 ag ag h;unfold Lib.TabIs World.var? at b;have j : Tryz.prog.globalNamed "internal/strconv.uint64pow10" = some 5 := by kernel_rfl
 rw[j]at b;have a:((begin Tryz.prog (fun _ _=>0) default).world.heap[5]?).bind Obj.row?=some ((AcI.map fun _=>Value.int .u64 0).toArray,279):=by kernel_rfl
 obtain⟨cs,f,_,_⟩:=i.1 5 _ 279 (by decide+kernel) a;simp only[Option.bind_some,f]at b;have d:cs=(AcI.map fun z=>Value.int .u64 z).toArray:=Option.some.inj b;intro x c;have c:x=(5,.cells (Afp [1,10,100,1000,10000,100000,1000000,10000000,100000000,1000000000,10000000000,100000000000,1000000000000,10000000000000,100000000000000,1000000000000000,10000000000000000,100000000000000000,1000000000000000000,10000000000000000000]) 279 (0,20)):=by
  simpa [Fg]using c
 subst c;unfold Mu;rw[f,d];rfl
open Go.Det Go.RowKit Go.ChangeShapes
def Og(k:Nat):Value->V
 | .agg cs=>.agg<|cs.toList.map<|Ku k
 |v=>Ku k v
def rS(P:Program)(k:Nat)(t:TypeId):Option Sh:=
 match shP P k t with
 |some s=>match P.underlying t with
  |some (.struct _)=>bif s.N4 then some s else none
  |some (.int _)|some .bool|some .string|some (.slice _)=>bif s.N4 then none else some s
  |_=>none
 |none=>none
def nO(P:Program)(t:TypeId):Option Sh:=
 match P.underlying t with
 |some (.array 2 e)=>match P.underlying e with
  |some (.int q)=>bif zi (P.cellsOf t) 2&&zi (P.cellsOf e) 1 then some (.pair (.int q)<|.int q)else none
  |_=>none
 |_=>none
def pA(P:Program)(k:Nat)(t:TypeId):Option Sh:=
 match nO P t with
 |some s=>some s
 |none=>rS P k t
def Q0(P:Program)(k:Nat):List TypeId->Option (List Sh)
 |[]=>some []
 |t::ts=>match pA P k t,Q0 P k ts with
  |some s,some a=>some (s::a)
  |_,_=>none
def wfL:(l:List Sh)->(BA l).T->Prop
 |[],_=>True
 |[a],x=>Ty a x
 |a::b::l,x=>Ty a x.1/\wfL (b::l) x.2
section
variable {H:Type}{enc:TypeId×Value->H}{P:Program}{W:World}{base:Nat}
theorem one_cell{t:TypeId}{v:Value}(a:(∃k,P.underlying t=some (.int k))\/P.underlying t=some .bool\/P.underlying t=some .string\/∃e,P.underlying t=some (.slice e))(h:ze P W .any base t v):v.cells.toList=[v]/\∀cs,v≠ .agg cs:=by
 rcases a with⟨k,a⟩|a|a|⟨e,a⟩<;>
 (simp only[ze,a]at h
  unfold Cell.okWide at h;simp only[a]at h;unfold Cell.ok at h;simp only[a]at h;cases v<;>first|(exact⟨rfl,fun _ e=>by cases e⟩)|(exfalso;exact h))
theorem AaQ{t:TypeId}{s:Sh}{v:Value}{d:DataW H}{p:List MemPlace}(f:nO P t=some s)(y:ze P W .any base t v)(h:DataW.Trod enc P W 0 (fun _=>true) true t v d p):
  (∃q,s=.pair (.int q) (.int q))/\∃x:s.T,PC (FW W) (B1 s x) (Og W.heap.size v)/\Ty s x/\Ae (pW W) (Og W.heap.size v) v:=by
 unfold nO at f;split at f
 case h_2=>cases f
 rename_i e r;split at f
 case h_2=>cases f
 rename_i q w;cases i:(zi (P.cellsOf t) 2&&zi (P.cellsOf e) 1)with
 |false=>rw[i]at f;cases f
 |true=>
 rw[i]at f;cases f;refine⟨⟨q,rfl⟩,?_⟩;rw[zf]at i;have B:=zc i.1;have A:=zc i.2;simp only[ze,r]at y;obtain⟨cs,rfl,j,_⟩:=y;obtain⟨fuel,c⟩:=h;have D:(Value.agg cs).cells.toList=cs.toList:=rfl;rw[D]at c;rw[B]at j;obtain⟨k,m,hl⟩:∃k m,cs.toList=[k,m]:=by
  match hh:cs.toList,(show cs.toList.length=2 by rw[Array.length_toList];exact j)with
  |[a,b],_=>exact⟨a,b,rfl⟩
 rw[hl]at c;cases fuel with
 |zero=>simp[zh]at c
 |succ n=>
  unfold zh at c;rw[r]at c;have C:List.range 2=[0,1]:=rfl;simp[C,A]at c;obtain⟨_,c⟩:=c;cases h0:zh enc P W 0 (fun _=>true) true n e [k]with
  |none=>simp[h0]at c
  |some G=>
   cases u:zh enc P W 0 (fun _=>true) true n e [m]with
   |none=>simp[h0,u]at c
   |some F=>
    obtain⟨n0,z0,_,w0⟩:=zn w h0;obtain⟨n1,z1,_,w1⟩:=zn w u;cases z0;cases z1;have o:DC (FW W) (.pair (.int q)<|.int q) ((n0:Int),(n1:Int)) (cs.toList.map<|Ku W.heap.size):=by
     rw[hl];simp only[DC];exact⟨[Ku W.heap.size<|.int q n0],[Ku W.heap.size<|.int q n1],rfl,by simp[Ku],by simp[Ku]⟩
    refine⟨((n0:Int),(n1:Int)),(PC.B1 o).1 rfl,⟨by simpa [Ty,Lit.wf]using w0,by simpa [Ty,Lit.wf]using w1⟩,?_⟩;simp only[Og,Ae];refine⟨cs,rfl,?_⟩;have g:=o.ok;generalize cs.toList=l at g;induction l with
    |nil=>simp
    |cons a l z=>
     simp only[zk,Bh];exact⟨Lr (g _ (by simp)),z fun v E=>g v<|by simp only[zk,List.mem_cons];exact .inr E⟩
theorem EZ:∀ {ts:List TypeId} {args:List Value} {ds:List (DataW H)} {p:List MemPlace},DataW.TrodAll enc P W 0 (fun _=>true) true ts args ds p->ds.length=ts.length
 |[],_,_,_,h=>by obtain⟨_,rfl,_⟩:=trodAll_nil h;rfl
 |t::ts,_,_,_,h=>by
  obtain⟨v0,b,d,c,p0,e,rfl,rfl,rfl,h0,a⟩:=trodAll_cons h;simp[EZ a]
theorem Af5{α:Type}{l:List α}(h:l.length=1):∃a,l=[a]:=by
 match l,h with
 |[a],_=>exact⟨a,rfl⟩
theorem AeN{α:Type}{l:List α}(h:l.length=2):∃a b,l=[a,b]:=by
 match l,h with
 |[a,b],_=>exact⟨a,b,rfl⟩
end
def vD:Sh->Nat
 | .str=>16
 | .list _=>24
 | .pair a b=>vD a+vD b
 | .unit=>0
 |_=>8
def Wt{H:Type}(P:Program)(t:TypeId)(d:DataW H):Prop:=∀n∈zg P t d,n<=reachBytes
def TQ(P:Program):Nat->TypeId->Bool
 |0,_=>false
 |f+1,t=>match P.underlying t with
  |some (.slice e)=>TQ P f e&&(match shP P f e with|some s=>zi (P.bytesOf e) (vD s)|none=>false)
  |some (.struct fs)=>fs.toList.all fun x=>TQ P f x.type
  |_=>true
def Zh:(s:Sh)->s.T->Prop
 | .list s,l=>(l:List s.T).length*vD s<=reachBytes/\∀x∈(l:List s.T),Zh s x
 | .pair a b,x=>Zh a x.1/\Zh b x.2
 |_,_=>True
def Age:(l:List Sh)->(BA l).T->Prop
 |[],_=>True
 |[a],x=>Zh a x
 |a::b::l,x=>Zh a x.1/\Age (b::l) x.2
section
variable {H:Type}{enc:TypeId×Value->H}{P:Program}{W:World}{base:Nat}
theorem Ae2{e:TypeId}{n:Nat}:∀ {l:List (DataW H)} {d:DataW H},d∈l->n∈zg P e d->n∈DataW.weightsAll P e l
 |x::l,d,a,b=>by
  rw[DataW.weightsAll,zj];rcases List.mem_cons.1 a with rfl|a
  ·grind
  ·exact .inr<|Ae2 a b
theorem AbV{n:Nat}:∀ {ts:List TypeId} {l:List (DataW H)} {i:Nat} {t:TypeId} {d:DataW H},ts[i]?=some t->l[i]?=some d->n∈zg P t d->n∈zd P ts l
 |u::ts,x::l,0,t,d,b,a,c=>by
  grind [zd]
 |u::ts,x::l,i+1,t,d,b,a,c=>by
  rw[zd,zj];exact .inr (AbV (i:=i) ah ah c)
 |[],_,_,_,_,b,_,_=>by grind
 |_::_,[],_,_,_,_,a,_=>by grind
theorem Adh{n:Nat}:∀ {ts b:List TypeId} {ds es:List (DataW H)},ts.length=ds.length->n∈zd P ts ds->n∈zd P (ts++b) (ds++es)
 |t::ts,b,d::ds,es,h,a=>by
  rw[zd,zj]at a;rw[List.cons_append,List.cons_append,zd,zj];exact a.imp id fun x=>Adh ah x
 |[],_,_,_,_,a=>by grind [zd]
 |_::_,_,[],_,h,_=>by simp at h
theorem Ady{t e:TypeId}{el sp:List (DataW H)}(a:P.underlying t=some (.slice e))(h:Wt P t (.slice el sp)):(el.length+sp.length)*P.bytesOf e<=reachBytes:=by
 grind [zg,List.mem_cons_self,Wt]
theorem AbB{t e:TypeId}{el sp:List (DataW H)}{d:DataW H}(c:P.underlying t=some (.slice e))(h:Wt P t (.slice el sp))(a:d∈el\/d∈sp):Wt P e d:=fun n b=>by
 refine h n ?_;grind [zg,Ae2]
theorem vY{t:TypeId}{fs:Array Field}{l:List (DataW H)}{i:Nat}{f:Field}{d:DataW H}(c:P.underlying t=some (.struct fs))(h:Wt P t (.agg l))(e:fs[i]?=some f)(a:l[i]?=some d):Wt P f.type d:=fun n b=>by
 refine h n ?_;rw[zg,c];exact AbV (i:=i) (t:=f.type) (by simp[e]) a b
theorem Qf{G:TypeId->DataW H->Prop}{f:TypeId->Option Sh}{n:Nat}{cs:List Value}
  (k:∀(t:TypeId) (s:Sh) (cs:List Value) (y:DataW H×List MemPlace),f t=some s->zh enc P W 0 (fun _=>true) true n t cs=some y->G t y.1->∃x:s.T,DC (FW W) s x (cs.map<|Ku W.heap.size)/\Ty s x/\Zh s x):
  ∀(fs:List Field) (o:Nat) (s:Sh),tA P f o fs=some s->(∀x∈fs,∃z,zh enc P W 0 (fun _=>true) true n x.type ((cs.drop x.offset).take<|P.cellsOf x.type)=some z/\G x.type z.1)->
   ∃x:s.T,DC (FW W) s x (((cs.map<|Ku W.heap.size).drop o).take s.sz)/\Ty s x/\Zh s x
 |[],o,s,c,_=>by
  cases c;exact⟨(),by rfl,trivial,trivial⟩
 |[x],o,s,c,h=>by
  unfold tA at c;split at c
  case h_2=>cases c
  rename_i i e;cases d:(zi x.offset o&&zi (P.cellsOf x.type) i.sz)with
  |false=>grind
  |true=>
  obtain⟨z,j,g⟩:=h x (by simp);grind [zc,zo,zp]
 |x::x'::l,o,s,c,h=>by
  unfold tA at c;split at c
  case h_2=>cases c
  rename_i i e;cases d:(zi x.offset o&&zi (P.cellsOf x.type) i.sz)with
  |false=>grind
  |true=>
  rw[d]at c;simp only[we,Option.map_eq_some_iff]at c;obtain⟨s2,m,rfl⟩:=c;simp only[zf]at d;obtain⟨z,j,g⟩:=h x (by simp);rw[zc d.1,zc d.2]at j;obtain⟨a,a1,a2,a3⟩:=k _ _ _ _ e j g;obtain⟨b,b1,b2,b3⟩:=Qf k (x'::l) (o+i.sz) s2 m (fun u p=>h u ah);refine⟨(a,b),?_,⟨a2,b2⟩,a3,b3⟩;refine⟨_,_,?_,a1,b1⟩;rw[zo,zp, <-List.drop_drop];exact List.take_add
theorem OW:∀(k u:Nat) (t:TypeId) (s:Sh) (cs:List Value) (y:DataW H×List MemPlace),shP P k t=some s->zh enc P W 0 (fun _=>true) true u t cs=some y->TQ P k t=true->Wt P t y.1->
  ∃x:s.T,DC (FW W) s x (cs.map<|Ku W.heap.size)/\Ty s x/\Zh s x
 |0,_,_,_,_,_,m,_,_,_=>by cases m
 |k+1,u,t,s,cs,y,m,h,C,D=>by
  have ih:=OW k;unfold shP at m;split at m
  case h_1 q g=>
   cases m;obtain⟨n,rfl,_,S⟩:=zn g h;exact⟨(n:Int),by rfl,by grind [Ty,Lit.wf],trivial⟩
  case h_2 g=>
   cases m;obtain⟨b,rfl,_⟩:=DataW.trod_bool g h;exact⟨b,by rfl,trivial,trivial⟩
  case h_3 g=>
   cases m;obtain⟨b,rfl,_,S⟩:=DataW.trod_string g h;exact⟨b.data.toList,by rfl,by show b.data.toList.length<=maxLen;simp_all,trivial⟩
  case h_4 e g=>
   split at m
   case h_2=>cases m
   rename_i f A;cases E:(zi (P.cellsOf e) f.sz&&Nat.blt 0 f.sz)with
   |false=>grind
   |true=>
   rw[E]at m;cases m;simp only[zf]at E;have K:=zc E.1;have J:=Nat.le_of_ble_eq_true E.2;rcases DataW.trod_slice g h with⟨rfl,_⟩|⟨a,len,cap,w,M,n,rfl,rfl,U,_,hlc,hcm,hel,V,hr,_⟩
   ·exact⟨[],by simp[DC,Ku],by simp[Ty],by simp[Zh]⟩
   ·obtain⟨Z,hr⟩:=hr rfl;rw[U]at D;have D:Wt P t (.slice (w.map (·.1)) (M.map (·.1))):=D;unfold TQ at C;rw[g]at C;simp only[A,zf]at C;obtain⟨C,F⟩:=C;have F:=zc F;rw[K]at V hr;by_cases h0:cap=0
    ·obtain rfl:len=0:=ae
     subst h0;exact⟨[],by simp[DC,Ku],by simp[Ty],by simp[Zh]⟩
    ·
     have all:∀i,i<cap->∃v z,W.cells? 0 (a.add<|i*f.sz) f.sz=some v/\zh enc P W 0 (fun _=>true) true n e v=some z/\Wt P e z.1:=by
      intro i L;by_cases Y:i<len
      ·have j:=V i Y;rw[zl ae]at j;rw[zm]at j;obtain⟨v,B,o⟩:=j;exact⟨v,_,B,o,AbB g D ah⟩
      ·have j:=hr (i-len) ae;rw[show len+(i-len)=i by omega,zl ae]at j;rw[zm]at j;obtain⟨v,B,o⟩:=j;exact⟨v,_,B,o,AbB g D ah⟩
     obtain⟨c0,z0,R,_,_⟩:=all 0 ae;rw[Nat.zero_mul,show a.add 0=a from by rfl]at R;obtain⟨c,tc,fz,hb,hsp,hoff,_⟩:=RH R J;have O:a.block<W.heap.size:=ah;have X:=sM hb ae;obtain⟨ab,ao,ax⟩:=a;simp only at hsp hb hoff O X;subst hsp;have r:∀i,i<cap->ao+i*f.sz+f.sz<=c.size/\∃x:f.T,DC (FW W) f x (((c.toList.map<|Ku W.heap.size).drop<|ao+i*f.sz).take f.sz)/\Ty f x/\Zh f x:=by
      intro i L;obtain⟨v,z,j,B,hz⟩:=all i L;rw[Addr.Nb]at j;obtain⟨c',tc',fz',hb',_,ho',rfl⟩:=RH j ae;grind [zo,zp]
     obtain⟨l,I,hl2⟩:=cI (p:=fun i (x:f.T)=>DC (FW W) f x (((c.toList.map<|Ku W.heap.size).drop<|ao+i*f.sz).take f.sz)/\Ty f x/\Zh f x) len fun i L=>(r i ae).2
     refine⟨l,?_,?_,?_⟩
     ·simp only[DC];refine⟨.sl ab ao len cap 0,?_,.inr ⟨ab,ao,cap,0,_,by rw[I],by omega,X,?_,.inl rfl,ah⟩⟩
      ·simp_all [Ku]
      ·rw[I];have:=(r (cap-1) ae).1;have o:cap*f.sz=(cap-1)*f.sz+f.sz:=by rw[<-Nat.succ_mul];grind
       grind
     ·refine⟨by omega,fun x N=>?_⟩;obtain⟨i,L,rfl⟩:=List.mem_iff_getElem.1 N;grind
     ·refine⟨?_,fun x N=>?_⟩
      ·have S:=Ady g D;grind
      ·obtain⟨i,L,rfl⟩:=List.mem_iff_getElem.1 N;grind
  case h_5 fs g=>
   split at m
   case h_2=>cases m
   rename_i f A;cases E:zi (P.cellsOf t) f.sz with
   |false=>grind
   |true=>
   have K:=zc E;obtain⟨xs,n,rfl,U,Q,hxl,hf⟩:=DataW.trod_struct g h;unfold TQ at C;obtain⟨x,j,B,o⟩:=Qf (G:=fun t d=>TQ P k t=true/\Wt P t d) (cs:=cs) (fun t s cs y j B o=>ih n t s cs y j B o.1 o.2) fs.toList 0 _ A (by grind [List.mem_iff_getElem?,vY]);grind [List.take_of_length_le]
  grind
theorem qM{k:Nat}{t:TypeId}{s:Sh}{v:Value}{d:DataW H}{p:List MemPlace}(e:shP P k t=some s)(hp:s.N4=false)(g:v.cells.toList=[v])(h:DataW.Trod enc P W 0 (fun _=>true) true t v d p)(c:TQ P k t=true)(f:Wt P t d):
  ∃x:s.T,PC (FW W) (B1 s x) (Ku W.heap.size v)/\(Ty s x/\Zh s x)/\Ae (pW W) (Ku W.heap.size v) v:=by
 obtain⟨a,b⟩:=h;rw[g]at b;obtain⟨x,h1,h2⟩:=OW k a t s [v] (d,p) e b c f;exact⟨x,(PC.B1 h1).2 hp _ rfl,h2,Lr<|h1.ok _<|by simp⟩
theorem sE{k:Nat}{t:TypeId}{s:Sh}{v:Value}{d:DataW H}{p:List MemPlace}(b:pA P k t=some s)(g:ze P W .any base t v)(h:DataW.Trod enc P W 0 (fun _=>true) true t v d p)(r:TQ P k t=true)(u:Wt P t d):
  ∃x:s.T,PC (FW W) (B1 s x) (Og W.heap.size v)/\(Ty s x/\Zh s x)/\Ae (pW W) (Og W.heap.size v) v:=by
 unfold pA at b;split at b
 case h_1=>
  rename_i s1 c;cases b;obtain⟨⟨q,rfl⟩,x,a1,a2,a3⟩:=AaQ c g h;exact⟨x,a1,⟨a2,trivial,trivial⟩,a3⟩
 unfold rS at b;split at b
 case h_2=>cases b
 rename_i i j;have plain:((∃k,P.underlying t=some (.int k))\/P.underlying t=some .bool\/P.underlying t=some .string\/∃e,P.underlying t=some (.slice e))->(bif i.N4 then none else some i)=some s->∃x:s.T,PC (FW W) (B1 s x) (Og W.heap.size v)/\(Ty s x/\Zh s x)/\Ae (pW W) (Og W.heap.size v) v:=by
  intro n y;cases hp:i.N4 with
  |true=>grind
  |false=>
   obtain⟨c,m⟩:=one_cell n g;have e:Og W.heap.size v=Ku W.heap.size v:=by
    simp_all [Og]
   grind [qM]
 split at b
 case h_1=>
  rename_i fs o;cases hp:i.N4 with
  |false=>grind
  |true=>
   rw[hp]at b;cases b;simp only[ze,o]at g;obtain⟨cs,rfl,_,_⟩:=g;obtain⟨fuel,hf⟩:=h;obtain⟨x,c,m⟩:=OW k fuel t s _ (d,p) j hf r u;refine⟨x,(PC.B1 c).1 hp,m,?_⟩;refine⟨cs,rfl,?_⟩;have f:=c.ok;have e:(Value.agg cs).cells.toList=cs.toList:=rfl;rw[e]at f;generalize cs.toList=l at f;induction l with
   |nil=>simp
   |cons a l w=>
    grind [Bh,Lr]
 case h_2=>simp_all
 case h_3=>grind
 case h_4=>grind
 case h_5=>simp_all
 grind
theorem MK{k:Nat}:∀ {ts:List TypeId} {a:List Sh} {args:List Value} {ds:List (DataW H)} {p:List MemPlace},Q0 P k ts=some a->(∀(j:Nat) t v,ts[j]?=some t->args[j]?=some v->ze P W .any base t v)->
  DataW.TrodAll enc P W 0 (fun _=>true) true ts args ds p->(ts.all<|TQ P k)=true->(∀n∈zd P ts ds,n<=reachBytes)->∃x:(BA a).T,KN (FW W) (Ag a x) (args.map<|Og W.heap.size)/\(wfL a x/\Age a x)/\Aw (pW W) (args.map<|Og W.heap.size) args
 |[],a,args,ds,p,b,_,h,_,_=>by
  cases b;obtain⟨rfl,rfl,rfl⟩:=trodAll_nil h;exact⟨(),fun ρ N=>by rfl,⟨trivial,trivial⟩,by simp⟩
 |t::ts,a,args,ds,p,b,g,h,f,u=>by
  unfold Q0 at b;split at b
  case h_2=>cases b
  rename_i s d l o;cases b;obtain⟨v0,c,w,q,p0,A,rfl,rfl,rfl,h0,r⟩:=trodAll_cons h;rw[List.all_cons,zf]at f;rw[zd]at u;obtain⟨x,a1,a2,a3⟩:=sE l (g 0 t v0 rfl rfl) h0 f.1 (fun n z=>(by simp_all));obtain⟨y,b1,b2,b3⟩:=MK o (fun j t v m e=>g (j+1) t v m e) r f.2 (by simp_all);have hr:Aw (pW W) ((v0::c).map<|Og W.heap.size) (v0::c):=by simp_all
  cases d with
  |nil=>exact⟨x,fun ρ N=>by
    have:=b1 ρ N;simp only[Ag,DO]at this;simp only[zk,Ag,this,BH,DO,ve];exact a1 ρ N,a2,hr⟩
  |cons s2 i=>exact⟨(x,y),fun ρ N=>by
    simp only[zk,Ag,BH];exact⟨a1 ρ N,b1 ρ N⟩,⟨⟨a2.1,b2.1⟩,a2.2,b2.2⟩,hr⟩
end
end Go.Pe
