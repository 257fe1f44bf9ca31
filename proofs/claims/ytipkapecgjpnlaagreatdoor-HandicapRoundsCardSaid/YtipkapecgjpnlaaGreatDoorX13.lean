import Derived.Test.YtipkapecgjpnlaaGreatDoorX11
import Derived.Stop.LaidErr
import Derived.ChangeShapes
/- A part of a proof; no law is stated here. -/
noncomputable section
open Nat renaming eq_of_beq_eq_true -> Za, beq -> Zg
open Go.DataW renaming weightsEach -> Zb, weights -> Ze, trod -> Zf, trod_int -> Zl
open Go.Value renaming okWide -> Zc
open Bool renaming and_eq_true -> Zd
open List renaming mem_append -> Zh, map_cons -> Zi, getElem?_eq_getElem -> Zj, map_take -> Zm, map_drop -> Zn
open Option renaming bind_eq_some_iff -> Zk
namespace Go.Pe
open Go.Det Go.RowKit
open Go.Proofs Go.Proofs.YtipkapecgjpnlaaGreatDoor
abbrev Vu:List Int:=[1,10,100,1000,10000,100000,1000000,10000000,100000000,1000000000,10000000000,100000000000,1000000000000,10000000000000,100000000000000,1000000000000000,10000000000000000,100000000000000000,1000000000000000000,10000000000000000000]
theorem UJ{W:World}(e:laidMetH Tryz.prog Qv W)(j:W.ShapedOpen Tryz.prog):GW W:=by
 rw[MakeChecks.laidMetH_plain _ _ _ ac]at e;have i:=e.tail.tail;have b : Lib.TabIs Tryz.prog W "internal/strconv.uint64pow10" .u64 Vu := Lib.tabIs_of_head (g := 3) (n := 20) ac ac Tryz.underlying334 Tryz.underlying206 ac ac i;unfold Lib.TabIs World.var? at b;have h : Tryz.prog.globalNamed "internal/strconv.uint64pow10" = some 3 := by kernel_rfl
 rw[h]at b;have a:((begin Tryz.prog (fun _ _=>0) default).world.heap[3]?).bind Obj.row?=some ((Vu.map fun _=>Value.int .u64 0).toArray,334):=by kernel_rfl
 obtain⟨cs,f,_,_⟩:=j.1 3 _ 334 (by decide+kernel) a;simp only[Option.bind_some,f]at b;have c:cs=(Vu.map fun z=>Value.int .u64 z).toArray:=Option.some.inj b;intro x d;have d:x=(3,.cells (WZ [1,10,100,1000,10000,100000,1000000,10000000,100000000,1000000000,10000000000,100000000000,1000000000000,10000000000000,100000000000000,1000000000000000,10000000000000000,100000000000000000,1000000000000000000,10000000000000000000]) 334 (0,20)):=by
  simpa [BW]using d
 subst d;unfold H8;rw[f,c];rfl
open Go.Det Go.RowKit Go.ChangeShapes
def Hq(k:Nat):Value->V
 | .agg cs=>.agg<|cs.toList.map<|G9 k
 |v=>G9 k v
def Qz(P:Program)(k:Nat)(t:TypeId):Option Sh:=
 match VU P k t with
 |some s=>match P.underlying t with
  |some (.struct _)=>bif s.Ho then some s else none
  |some (.int _)|some .bool|some .string|some (.slice _)=>bif s.Ho then none else some s
  |_=>none
 |none=>none
def Se(P:Program)(t:TypeId):Option Sh:=
 match P.underlying t with
 |some (.array 2 e)=>match P.underlying e with
  |some (.int q)=>bif Zg (P.cellsOf t) 2&&Zg (P.cellsOf e) 1 then some (.pair (.int q)<|.int q)else none
  |_=>none
 |_=>none
def Ri(P:Program)(k:Nat)(t:TypeId):Option Sh:=
 match Se P t with
 |some s=>some s
 |none=>Qz P k t
def Jh(P:Program)(k:Nat):List TypeId->Option (List Sh)
 |[]=>some []
 |t::ts=>match Ri P k t,Jh P k ts with
  |some s,some a=>some (s::a)
  |_,_=>none
def Yt:(l:List Sh)->(Bn l).T->Prop
 |[],_=>True
 |[a],x=>Kb a x
 |a::b::l,x=>Kb a x.1/\Yt (b::l) x.2
section
variable {H:Type}{enc:TypeId×Value->H}{P:Program}{W:World}{base:Nat}
theorem QK{t:TypeId}{v:Value}(a:(∃k,P.underlying t=some (.int k))\/P.underlying t=some .bool\/P.underlying t=some .string\/∃e,P.underlying t=some (.slice e))(h:Zc P W .any base t v):v.cells.toList=[v]/\∀cs,v≠ .agg cs:=by
 rcases a with⟨k,a⟩|a|a|⟨e,a⟩<;>
 (simp only[Zc,a]at h
  unfold Cell.okWide at h;simp only[a]at h;unfold Cell.ok at h;simp only[a]at h;cases v<;>first|(exact⟨rfl,fun _ e=>by cases e⟩)|(exfalso;exact h))
theorem TA{t:TypeId}{s:Sh}{v:Value}{d:DataW H}{p:List MemPlace}(f:Se P t=some s)(r:Zc P W .any base t v)(h:DataW.Trod enc P W 0 (fun _=>true) true t v d p):
  (∃q,s=.pair (.int q) (.int q))/\∃x:s.T,PC (FW W) (AX s x) (Hq W.heap.size v)/\Kb s x/\Aa (pW W) (Hq W.heap.size v) v:=by
 unfold Se at f;split at f
 case h_2=>cases f
 rename_i e w;split at f
 case h_2=>cases f
 rename_i q he;cases i:(Zg (P.cellsOf t) 2&&Zg (P.cellsOf e) 1)with
 |false=>rw[i]at f;cases f
 |true=>
 rw[i]at f;cases f;refine⟨⟨q,rfl⟩,?_⟩;rw[Zd]at i;have C:=Za i.1;have A:=Za i.2;simp only[Zc,w]at r;obtain⟨cs,rfl,j,_⟩:=r;obtain⟨fuel,c⟩:=h;have D:(Value.agg cs).cells.toList=cs.toList:=rfl;rw[D]at c;rw[C]at j;obtain⟨c0,c1,hl⟩:∃c0 c1,cs.toList=[c0,c1]:=by
  match hh:cs.toList,(show cs.toList.length=2 by rw[Array.length_toList];exact j)with
  |[a,b],_=>exact⟨a,b,rfl⟩
 rw[hl]at c;cases fuel with
 |zero=>simp[Zf]at c
 |succ n=>
  unfold Zf at c;rw[w]at c;have B:List.range 2=[0,1]:=rfl;simp[B,A]at c;obtain⟨_,c⟩:=c;cases h0:Zf enc P W 0 (fun _=>true) true n e [c0]with
  |none=>simp[h0]at c
  |some E=>
   cases u:Zf enc P W 0 (fun _=>true) true n e [c1]with
   |none=>simp[h0,u]at c
   |some F=>
    obtain⟨k,z0,_,w0⟩:=Zl he h0;obtain⟨m,z1,_,w1⟩:=Zl he u;cases z0;cases z1;have o:DC (FW W) (.pair (.int q)<|.int q) ((k:Int),(m:Int)) (cs.toList.map<|G9 W.heap.size):=by
     rw[hl];simp only[DC];exact⟨[G9 W.heap.size<|.int q k],[G9 W.heap.size<|.int q m],rfl,by simp[G9],by simp[G9]⟩
    refine⟨((k:Int),(m:Int)),(PC.AX o).1 rfl,⟨by simpa [Kb,Lit.wf]using w0,by simpa [Kb,Lit.wf]using w1⟩,?_⟩;simp only[Hq,Aa];refine⟨cs,rfl,?_⟩;have g:=o.ok;generalize cs.toList=l at g;induction l with
    |nil=>simp
    |cons a l z=>
     simp only[Zi,Au];exact⟨HG (g _ (by simp)),z fun v y=>g v<|by simp only[Zi,List.mem_cons];exact .inr y⟩
theorem Cu:∀ {ts:List TypeId} {args:List Value} {ds:List (DataW H)} {p:List MemPlace},DataW.TrodAll enc P W 0 (fun _=>true) true ts args ds p->ds.length=ts.length
 |[],_,_,_,h=>by obtain⟨_,rfl,_⟩:=trodAll_nil h;rfl
 |t::ts,_,_,_,h=>by
  obtain⟨v0,b,d,c,p0,e,rfl,rfl,rfl,h0,a⟩:=trodAll_cons h;simp[Cu a]
theorem UW{α:Type}{l:List α}(h:l.length=3):∃a b c,l=[a,b,c]:=by
 match l,h with
 |[a,b,c],_=>exact⟨a,b,c,rfl⟩
end
def Tj:Sh->Nat
 | .str=>16
 | .list _=>24
 | .pair a b=>Tj a+Tj b
 | .unit=>0
 |_=>8
def Wt{H:Type}(P:Program)(t:TypeId)(d:DataW H):Prop:=∀n∈Ze P t d,n<=reachBytes
def Km(P:Program):Nat->TypeId->Bool
 |0,_=>false
 |f+1,t=>match P.underlying t with
  |some (.slice e)=>Km P f e&&(match VU P f e with|some s=>Zg (P.bytesOf e) (Tj s)|none=>false)
  |some (.struct fs)=>fs.toList.all fun x=>Km P f x.type
  |_=>true
def No:(s:Sh)->s.T->Prop
 | .list s,l=>(l:List s.T).length*Tj s<=reachBytes/\∀x∈(l:List s.T),No s x
 | .pair a b,x=>No a x.1/\No b x.2
 |_,_=>True
def WD:(l:List Sh)->(Bn l).T->Prop
 |[],_=>True
 |[a],x=>No a x
 |a::b::l,x=>No a x.1/\WD (b::l) x.2
section
variable {H:Type}{enc:TypeId×Value->H}{P:Program}{W:World}{base:Nat}
theorem WJ{e:TypeId}{n:Nat}:∀ {l:List (DataW H)} {d:DataW H},d∈l->n∈Ze P e d->n∈DataW.weightsAll P e l
 |x::l,d,a,b=>by
  rw[DataW.weightsAll,Zh];rcases List.mem_cons.1 a with rfl|a
  ·grind
  ·exact .inr<|WJ a b
theorem UC{n:Nat}:∀ {ts:List TypeId} {l:List (DataW H)} {i:Nat} {t:TypeId} {d:DataW H},ts[i]?=some t->l[i]?=some d->n∈Ze P t d->n∈Zb P ts l
 |u::ts,x::l,0,t,d,a,b,c=>by
  grind [Zb]
 |u::ts,x::l,i+1,t,d,a,b,c=>by
  rw[Zb,Zh];exact .inr (UC (i:=i) ae ae c)
 |[],_,_,_,_,a,_,_=>by grind
 |_::_,[],_,_,_,_,b,_=>by grind
theorem V7{n:Nat}:∀ {ts b:List TypeId} {ds es:List (DataW H)},ts.length=ds.length->n∈Zb P ts ds->n∈Zb P (ts++b) (ds++es)
 |t::ts,b,d::ds,es,h,a=>by
  rw[Zb,Zh]at a;rw[List.cons_append,List.cons_append,Zb,Zh];exact a.imp id fun x=>V7 ae x
 |[],_,_,_,_,a=>by grind [Zb]
 |_::_,_,[],_,h,_=>by simp at h
theorem Wg{t e:TypeId}{el sp:List (DataW H)}(a:P.underlying t=some (.slice e))(h:Wt P t (.slice el sp)):(el.length+sp.length)*P.bytesOf e<=reachBytes:=by
 grind [Ze,List.mem_cons_self,Wt]
theorem UO{t e:TypeId}{el sp:List (DataW H)}{d:DataW H}(a:P.underlying t=some (.slice e))(h:Wt P t (.slice el sp))(b:d∈el\/d∈sp):Wt P e d:=fun n c=>by
 refine h n ?_;grind [Ze,WJ]
theorem Tg{t:TypeId}{fs:Array Field}{l:List (DataW H)}{i:Nat}{f:Field}{d:DataW H}(b:P.underlying t=some (.struct fs))(h:Wt P t (.agg l))(a:fs[i]?=some f)(c:l[i]?=some d):Wt P f.type d:=fun n e=>by
 refine h n ?_;rw[Ze,b];exact UC (i:=i) (t:=f.type) (by simp[a]) c e
theorem Ii{G:TypeId->DataW H->Prop}{f:TypeId->Option Sh}{n:Nat}{cs:List Value}
  (k:∀(t:TypeId) (s:Sh) (cs:List Value) (y:DataW H×List MemPlace),f t=some s->Zf enc P W 0 (fun _=>true) true n t cs=some y->G t y.1->∃x:s.T,DC (FW W) s x (cs.map<|G9 W.heap.size)/\Kb s x/\No s x):
  ∀(fs:List Field) (o:Nat) (s:Sh),SI P f o fs=some s->(∀x∈fs,∃z,Zf enc P W 0 (fun _=>true) true n x.type ((cs.drop x.offset).take<|P.cellsOf x.type)=some z/\G x.type z.1)->
   ∃x:s.T,DC (FW W) s x (((cs.map<|G9 W.heap.size).drop o).take s.sz)/\Kb s x/\No s x
 |[],o,s,c,_=>by
  cases c;exact⟨(),by rfl,trivial,trivial⟩
 |[x],o,s,c,i=>by
  unfold SI at c;split at c
  case h_2=>cases c
  rename_i h d;cases g:(Zg x.offset o&&Zg (P.cellsOf x.type) h.sz)with
  |false=>grind
  |true=>
  obtain⟨z,j,e⟩:=i x (by simp);grind [Za,Zm,Zn]
 |x::x'::l,o,s,c,i=>by
  unfold SI at c;split at c
  case h_2=>cases c
  rename_i h d;cases g:(Zg x.offset o&&Zg (P.cellsOf x.type) h.sz)with
  |false=>grind
  |true=>
  rw[g]at c;simp only[wc,Option.map_eq_some_iff]at c;obtain⟨s2,m,rfl⟩:=c;simp only[Zd]at g;obtain⟨z,j,e⟩:=i x (by simp);rw[Za g.1,Za g.2]at j;obtain⟨a,a1,a2,a3⟩:=k _ _ _ _ d j e;obtain⟨b,b1,b2,b3⟩:=Ii k (x'::l) (o+h.sz) s2 m (fun u p=>i u ae);refine⟨(a,b),?_,⟨a2,b2⟩,a3,b3⟩;refine⟨_,_,?_,a1,b1⟩;rw[Zm,Zn, <-List.drop_drop];exact List.take_add
theorem I3:∀(k r:Nat) (t:TypeId) (s:Sh) (cs:List Value) (y:DataW H×List MemPlace),VU P k t=some s->Zf enc P W 0 (fun _=>true) true r t cs=some y->Km P k t=true->Wt P t y.1->
  ∃x:s.T,DC (FW W) s x (cs.map<|G9 W.heap.size)/\Kb s x/\No s x
 |0,_,_,_,_,_,g,_,_,_=>by cases g
 |k+1,r,t,s,cs,y,g,h,C,D=>by
  have ih:=I3 k;unfold VU at g;split at g
  case h_1 q m=>
   cases g;obtain⟨n,rfl,_,R⟩:=Zl m h;exact⟨(n:Int),by rfl,by grind [Kb,Lit.wf],trivial⟩
  case h_2 m=>
   cases g;obtain⟨b,rfl,_⟩:=DataW.trod_bool m h;exact⟨b,by rfl,trivial,trivial⟩
  case h_3 m=>
   cases g;obtain⟨b,rfl,_,R⟩:=DataW.trod_string m h;exact⟨b.data.toList,by rfl,by show b.data.toList.length<=maxLen;simp_all,trivial⟩
  case h_4 e m=>
   split at g
   case h_2=>cases g
   rename_i f v;cases E:(Zg (P.cellsOf e) f.sz&&Nat.blt 0 f.sz)with
   |false=>grind
   |true=>
   rw[E]at g;cases g;simp only[Zd]at E;have J:=Za E.1;have L:=Nat.le_of_ble_eq_true E.2;rcases DataW.trod_slice m h with⟨rfl,_⟩|⟨a,len,cap,w,K,n,rfl,rfl,V,_,hlc,hcm,hel,he,N,_⟩
   ·exact⟨[],by simp[DC,G9],by simp[Kb],by simp[No]⟩
   ·obtain⟨hrl,N⟩:=N rfl;rw[V]at D;have D:Wt P t (.slice (w.map (·.1)) (K.map (·.1))):=D;unfold Km at C;rw[m]at C;simp only[v,Zd]at C;obtain⟨C,I⟩:=C;have I:=Za I;rw[J]at he N;by_cases h0:cap=0
    ·obtain rfl:len=0:=a8
     subst h0;exact⟨[],by simp[DC,G9],by simp[Kb],by simp[No]⟩
    ·
     have all:∀i,i<cap->∃A z,W.cells? 0 (a.add<|i*f.sz) f.sz=some A/\Zf enc P W 0 (fun _=>true) true n e A=some z/\Wt P e z.1:=by
      intro i M;by_cases Z:i<len
      ·have j:=he i Z;rw[Zj a8]at j;rw[Zk]at j;obtain⟨A,B,u⟩:=j;exact⟨A,_,B,u,UO m D ae⟩
      ·have j:=N (i-len) a8;rw[show len+(i-len)=i by omega,Zj a8]at j;rw[Zk]at j;obtain⟨A,B,u⟩:=j;exact⟨A,_,B,u,UO m D ae⟩
     obtain⟨c0,z0,U,_,_⟩:=all 0 a8;rw[Nat.zero_mul,show a.add 0=a from by rfl]at U;obtain⟨c,tc,fz,hb,hsp,hoff,_⟩:=JR U L;have O:a.block<W.heap.size:=ae;have X:=QG hb a8;obtain⟨ab,ao,ax⟩:=a;simp only at hsp hb hoff O X;subst hsp;have o:∀i,i<cap->ao+i*f.sz+f.sz<=c.size/\∃x:f.T,DC (FW W) f x (((c.toList.map<|G9 W.heap.size).drop<|ao+i*f.sz).take f.sz)/\Kb f x/\No f x:=by
      intro i M;obtain⟨A,z,j,B,hz⟩:=all i M;rw[Addr.GV]at j;obtain⟨c',tc',fz',hb',_,ho',rfl⟩:=JR j a8;grind [Zm,Zn]
     obtain⟨l,F,hl2⟩:=OO (p:=fun i (x:f.T)=>DC (FW W) f x (((c.toList.map<|G9 W.heap.size).drop<|ao+i*f.sz).take f.sz)/\Kb f x/\No f x) len fun i M=>(o i a8).2
     refine⟨l,?_,?_,?_⟩
     ·simp only[DC];refine⟨.sl ab ao len cap 0,?_,.inr ⟨ab,ao,cap,0,_,by rw[F],by omega,X,?_,.inl rfl,ae⟩⟩
      ·simp_all [G9]
      ·rw[F];have:=(o (cap-1) a8).1;have u:cap*f.sz=(cap-1)*f.sz+f.sz:=by rw[<-Nat.succ_mul];grind
       grind
     ·refine⟨by omega,fun x Q=>?_⟩;obtain⟨i,M,rfl⟩:=List.mem_iff_getElem.1 Q;grind
     ·refine⟨?_,fun x Q=>?_⟩
      ·have R:=Wg m D;grind
      ·obtain⟨i,M,rfl⟩:=List.mem_iff_getElem.1 Q;grind
  case h_5 fs m=>
   split at g
   case h_2=>cases g
   rename_i f v;cases E:Zg (P.cellsOf t) f.sz with
   |false=>grind
   |true=>
   have J:=Za E;obtain⟨xs,n,rfl,V,S,Y,hf⟩:=DataW.trod_struct m h;unfold Km at C;obtain⟨x,j,B,u⟩:=Ii (G:=fun t d=>Km P k t=true/\Wt P t d) (cs:=cs) (fun t s cs y j B u=>ih n t s cs y j B u.1 u.2) fs.toList 0 _ v (by grind [List.mem_iff_getElem?,Tg]);grind [List.take_of_length_le]
  grind
theorem RB{k:Nat}{t:TypeId}{s:Sh}{v:Value}{d:DataW H}{p:List MemPlace}(i:VU P k t=some s)(g:s.Ho=false)(e:v.cells.toList=[v])(h:DataW.Trod enc P W 0 (fun _=>true) true t v d p)(c:Km P k t=true)(f:Wt P t d):
  ∃x:s.T,PC (FW W) (AX s x) (G9 W.heap.size v)/\(Kb s x/\No s x)/\Aa (pW W) (G9 W.heap.size v) v:=by
 obtain⟨a,b⟩:=h;rw[e]at b;obtain⟨x,h1,h2⟩:=I3 k a t s [v] (d,p) i b c f;exact⟨x,(PC.AX h1).2 g _ rfl,h2,HG<|h1.ok _<|by simp⟩
theorem RA{k:Nat}{t:TypeId}{s:Sh}{v:Value}{d:DataW H}{p:List MemPlace}(b:Ri P k t=some s)(i:Zc P W .any base t v)(h:DataW.Trod enc P W 0 (fun _=>true) true t v d p)(o:Km P k t=true)(u:Wt P t d):
  ∃x:s.T,PC (FW W) (AX s x) (Hq W.heap.size v)/\(Kb s x/\No s x)/\Aa (pW W) (Hq W.heap.size v) v:=by
 unfold Ri at b;split at b
 case h_1=>
  rename_i s1 f;cases b;obtain⟨⟨q,rfl⟩,x,a1,a2,a3⟩:=TA f i h;exact⟨x,a1,⟨a2,trivial,trivial⟩,a3⟩
 unfold Qz at b;split at b
 case h_2=>cases b
 rename_i g m;have plain:((∃k,P.underlying t=some (.int k))\/P.underlying t=some .bool\/P.underlying t=some .string\/∃e,P.underlying t=some (.slice e))->(bif g.Ho then none else some g)=some s->∃x:s.T,PC (FW W) (AX s x) (Hq W.heap.size v)/\(Kb s x/\No s x)/\Aa (pW W) (Hq W.heap.size v) v:=by
  intro r y;cases j:g.Ho with
  |true=>grind
  |false=>
   obtain⟨f,n⟩:=QK r i;have e:Hq W.heap.size v=G9 W.heap.size v:=by
    simp_all [Hq]
   grind [RB]
 split at b
 case h_1=>
  rename_i fs w;cases j:g.Ho with
  |false=>grind
  |true=>
   rw[j]at b;cases b;simp only[Zc,w]at i;obtain⟨cs,rfl,_,_⟩:=i;obtain⟨fuel,hf⟩:=h;obtain⟨x,f,n⟩:=I3 k fuel t s _ (d,p) m hf o u;refine⟨x,(PC.AX f).1 j,n,?_⟩;refine⟨cs,rfl,?_⟩;have c:=f.ok;have e:(Value.agg cs).cells.toList=cs.toList:=rfl;rw[e]at c;generalize cs.toList=l at c;induction l with
   |nil=>simp
   |cons a l z=>
    grind [Au,HG]
 case h_2=>simp_all
 case h_3=>grind
 case h_4=>grind
 case h_5=>simp_all
 grind
theorem GJ{k:Nat}:∀ {ts:List TypeId} {a:List Sh} {args:List Value} {ds:List (DataW H)} {p:List MemPlace},Jh P k ts=some a->(∀(j:Nat) t v,ts[j]?=some t->args[j]?=some v->Zc P W .any base t v)->
  DataW.TrodAll enc P W 0 (fun _=>true) true ts args ds p->(ts.all<|Km P k)=true->(∀n∈Zb P ts ds,n<=reachBytes)->∃x:(Bn a).T,Hv (FW W) (Af a x) (args.map<|Hq W.heap.size)/\(Yt a x/\WD a x)/\Ac (pW W) (args.map<|Hq W.heap.size) args
 |[],a,args,ds,p,b,_,h,_,_=>by
  cases b;obtain⟨rfl,rfl,rfl⟩:=trodAll_nil h;exact⟨(),fun ρ N=>by rfl,⟨trivial,trivial⟩,by simp⟩
 |t::ts,a,args,ds,p,b,g,h,e,q=>by
  unfold Jh at b;split at b
  case h_2=>cases b
  rename_i s d r u;cases b;obtain⟨v0,c,z,w,p0,A,rfl,rfl,rfl,h0,l⟩:=trodAll_cons h;rw[List.all_cons,Zd]at e;rw[Zb]at q;obtain⟨x,a1,a2,a3⟩:=RA r (g 0 t v0 rfl rfl) h0 e.1 (fun n B=>(by simp_all));obtain⟨y,b1,b2,b3⟩:=GJ u (fun j t v o f=>g (j+1) t v o f) l e.2 (by simp_all);have i:Ac (pW W) ((v0::c).map<|Hq W.heap.size) (v0::c):=by simp_all
  cases d with
  |nil=>exact⟨x,fun ρ N=>by
    have:=b1 ρ N;simp only[Af,BM]at this;simp only[Zi,Af,this,AG,BM,va];exact a1 ρ N,a2,i⟩
  |cons s2 m=>exact⟨(x,y),fun ρ N=>by
    simp only[Zi,Af,AG];exact⟨a1 ρ N,b1 ρ N⟩,⟨⟨a2.1,b2.1⟩,a2.2,b2.2⟩,i⟩
end
end Go.Pe
