import Derived.Test.YtjbmodoofdpgcabGreatDoorX11
import Derived.Lib.LaidTab
import Derived.Stop.LaidErr
import Derived.ChangeShapes
/- A part of a proof; no law is stated here. -/
noncomputable section
open Nat renaming eq_of_beq_eq_true -> Za, beq -> Zg
open Go.DataW renaming weightsEach -> Zb, weights -> Ze, trod -> Zf, trod_int -> Zl
open Go.Value renaming okWide -> Zc
open Bool renaming and_eq_true -> Zd
open List renaming mem_append -> Zh, map_cons -> Zi, getElem?_eq_getElem -> Zj, map_take -> Zm, map_drop -> Zn
open Option renaming bind_eq_some_iff -> Zk
namespace Go.Pe
open Go.Det Go.RowKit
open Go.Proofs Go.Proofs.YtjbmodoofdpgcabGreatDoor
abbrev Tg:List Int:=[1,10,100,1000,10000,100000,1000000,10000000,100000000,1000000000,10000000000,100000000000,1000000000000,10000000000000,100000000000000,1000000000000000,10000000000000000,100000000000000000,1000000000000000000,10000000000000000000]
theorem Ub{W:World}(f:laidMetH Tryz.prog Pp W)(j:W.ShapedOpen Tryz.prog):GW W:=by
 rw[MakeChecks.laidMetH_plain _ _ _ ac]at f;have i:=f.tail.tail;have b : Lib.TabIs Tryz.prog W "internal/strconv.uint64pow10" .u64 Tg := Lib.tabIs_of_head (g := 7) (n := 20) ac ac Tryz.underlying272 Tryz.underlying191 ac ac i;unfold Lib.TabIs World.var? at b;have h : Tryz.prog.globalNamed "internal/strconv.uint64pow10" = some 7 := by kernel_rfl
 rw[h]at b;have a:((begin Tryz.prog (fun _ _=>0) default).world.heap[7]?).bind Obj.row?=some ((Tg.map fun _=>Value.int .u64 0).toArray,272):=by kernel_rfl
 obtain⟨cs,e,_,_⟩:=j.1 7 _ 272 (by decide+kernel) a;simp only[Option.bind_some,e]at b;have c:cs=(Tg.map fun z=>Value.int .u64 z).toArray:=Option.some.inj b;intro x d;have d:x=(7,.cells (TM [1,10,100,1000,10000,100000,1000000,10000000,100000000,1000000000,10000000000,100000000000,1000000000000,10000000000000,100000000000000,1000000000000000,10000000000000000,100000000000000000,1000000000000000000,10000000000000000000]) 272 (0,20)):=by
  simpa [CG]using d
 subst d;unfold Hs;rw[e,c];rfl
open Go.Det Go.RowKit Go.ChangeShapes
def Gj(k:Nat):Value->V
 | .agg cs=>.agg<|cs.toList.map<|Gf k
 |v=>Gf k v
def OS(P:Program)(k:Nat)(t:TypeId):Option Sh:=
 match SM P k t with
 |some s=>match P.underlying t with
  |some (.struct _)=>bif s.Gs then some s else none
  |some (.int _)|some .bool|some .string|some (.slice _)=>bif s.Gs then none else some s
  |_=>none
 |none=>none
def PQ(P:Program)(t:TypeId):Option Sh:=
 match P.underlying t with
 |some (.array 2 e)=>match P.underlying e with
  |some (.int q)=>bif Zg (P.cellsOf t) 2&&Zg (P.cellsOf e) 1 then some (.pair (.int q)<|.int q)else none
  |_=>none
 |_=>none
def P1(P:Program)(k:Nat)(t:TypeId):Option Sh:=
 match PQ P t with
 |some s=>some s
 |none=>OS P k t
def Jo(P:Program)(k:Nat):List TypeId->Option (List Sh)
 |[]=>some []
 |t::ts=>match P1 P k t,Jo P k ts with
  |some s,some a=>some (s::a)
  |_,_=>none
def UU:(l:List Sh)->(A5 l).T->Prop
 |[],_=>True
 |[a],x=>JD a x
 |a::b::l,x=>JD a x.1/\UU (b::l) x.2
section
variable {H:Type}{enc:TypeId×Value->H}{P:Program}{W:World}{base:Nat}
theorem one_cell{t:TypeId}{v:Value}(a:(∃k,P.underlying t=some (.int k))\/P.underlying t=some .bool\/P.underlying t=some .string\/∃e,P.underlying t=some (.slice e))(h:Zc P W .any base t v):v.cells.toList=[v]/\∀cs,v≠ .agg cs:=by
 rcases a with⟨k,a⟩|a|a|⟨e,a⟩<;>
 (simp only[Zc,a]at h
  unfold Cell.okWide at h;simp only[a]at h;unfold Cell.ok at h;simp only[a]at h;cases v<;>first|(exact⟨rfl,fun _ e=>by cases e⟩)|(exfalso;exact h))
theorem Rn{t:TypeId}{s:Sh}{v:Value}{d:DataW H}{p:List MemPlace}(f:PQ P t=some s)(r:Zc P W .any base t v)(h:DataW.Trod enc P W 0 (fun _=>true) true t v d p):
  (∃q,s=.pair (.int q) (.int q))/\∃x:s.T,PC (FW W) (AO s x) (Gj W.heap.size v)/\JD s x/\Aa (pW W) (Gj W.heap.size v) v:=by
 unfold PQ at f;split at f
 case h_2=>cases f
 rename_i e y;split at f
 case h_2=>cases f
 rename_i q o;cases j:(Zg (P.cellsOf t) 2&&Zg (P.cellsOf e) 1)with
 |false=>rw[j]at f;cases f
 |true=>
 rw[j]at f;cases f;refine⟨⟨q,rfl⟩,?_⟩;rw[Zd]at j;have A:=Za j.1;have B:=Za j.2;simp only[Zc,y]at r;obtain⟨cs,rfl,i,_⟩:=r;obtain⟨fuel,c⟩:=h;have E:(Value.agg cs).cells.toList=cs.toList:=rfl;rw[E]at c;rw[A]at i;obtain⟨c0,c1,hl⟩:∃c0 c1,cs.toList=[c0,c1]:=by
  match hh:cs.toList,(show cs.toList.length=2 by rw[Array.length_toList];exact i)with
  |[a,b],_=>exact⟨a,b,rfl⟩
 rw[hl]at c;cases fuel with
 |zero=>simp[Zf]at c
 |succ n=>
  unfold Zf at c;rw[y]at c;have z:List.range 2=[0,1]:=rfl;simp[z,B]at c;obtain⟨_,c⟩:=c;cases h0:Zf enc P W 0 (fun _=>true) true n e [c0]with
  |none=>simp[h0]at c
  |some I=>
   cases w:Zf enc P W 0 (fun _=>true) true n e [c1]with
   |none=>simp[h0,w]at c
   |some G=>
    obtain⟨k,D,_,w0⟩:=Zl o h0;obtain⟨m,z1,_,w1⟩:=Zl o w;cases D;cases z1;have u:DC (FW W) (.pair (.int q)<|.int q) ((k:Int),(m:Int)) (cs.toList.map<|Gf W.heap.size):=by
     rw[hl];simp only[DC];exact⟨[Gf W.heap.size<|.int q k],[Gf W.heap.size<|.int q m],rfl,by simp[Gf],by simp[Gf]⟩
    refine⟨((k:Int),(m:Int)),(PC.AO u).1 rfl,⟨by simpa [JD,Lit.wf]using w0,by simpa [JD,Lit.wf]using w1⟩,?_⟩;simp only[Gj,Aa];refine⟨cs,rfl,?_⟩;have g:=u.ok;generalize cs.toList=l at g;induction l with
    |nil=>simp
    |cons a l F=>
     simp only[Zi,Ap];exact⟨Gq (g _ (by simp)),F fun v C=>g v<|by simp only[Zi,List.mem_cons];exact .inr C⟩
theorem DH:∀ {ts:List TypeId} {args:List Value} {ds:List (DataW H)} {p:List MemPlace},DataW.TrodAll enc P W 0 (fun _=>true) true ts args ds p->ds.length=ts.length
 |[],_,_,_,h=>by obtain⟨_,rfl,_⟩:=trodAll_nil h;rfl
 |t::ts,_,_,_,h=>by
  obtain⟨v0,c,e,a,p0,d,rfl,rfl,rfl,h0,b⟩:=trodAll_cons h;simp[DH b]
theorem TP{α:Type}{l:List α}(h:l.length=2):∃a b,l=[a,b]:=by
 match l,h with
 |[a,b],_=>exact⟨a,b,rfl⟩
end
def Qv:Sh->Nat
 | .str=>16
 | .list _=>24
 | .pair a b=>Qv a+Qv b
 | .unit=>0
 |_=>8
def Wt{H:Type}(P:Program)(t:TypeId)(d:DataW H):Prop:=∀n∈Ze P t d,n<=reachBytes
def Jb(P:Program):Nat->TypeId->Bool
 |0,_=>false
 |f+1,t=>match P.underlying t with
  |some (.slice e)=>Jb P f e&&(match SM P f e with|some s=>Zg (P.bytesOf e) (Qv s)|none=>false)
  |some (.struct fs)=>fs.toList.all fun x=>Jb P f x.type
  |_=>true
def LK:(s:Sh)->s.T->Prop
 | .list s,l=>(l:List s.T).length*Qv s<=reachBytes/\∀x∈(l:List s.T),LK s x
 | .pair a b,x=>LK a x.1/\LK b x.2
 |_,_=>True
def TB:(l:List Sh)->(A5 l).T->Prop
 |[],_=>True
 |[a],x=>LK a x
 |a::b::l,x=>LK a x.1/\TB (b::l) x.2
section
variable {H:Type}{enc:TypeId×Value->H}{P:Program}{W:World}{base:Nat}
theorem T2{e:TypeId}{n:Nat}:∀ {l:List (DataW H)} {d:DataW H},d∈l->n∈Ze P e d->n∈DataW.weightsAll P e l
 |x::l,d,a,b=>by
  rw[DataW.weightsAll,Zh];rcases List.mem_cons.1 a with rfl|a
  ·grind
  ·exact .inr<|T2 a b
theorem R1{n:Nat}:∀ {ts:List TypeId} {l:List (DataW H)} {i:Nat} {t:TypeId} {d:DataW H},ts[i]?=some t->l[i]?=some d->n∈Ze P t d->n∈Zb P ts l
 |u::ts,x::l,0,t,d,a,b,c=>by
  grind [Zb]
 |u::ts,x::l,i+1,t,d,a,b,c=>by
  rw[Zb,Zh];exact .inr (R1 (i:=i) ae ae c)
 |[],_,_,_,_,a,_,_=>by grind
 |_::_,[],_,_,_,_,b,_=>by grind
theorem Ua{n:Nat}:∀ {ts b:List TypeId} {ds es:List (DataW H)},ts.length=ds.length->n∈Zb P ts ds->n∈Zb P (ts++b) (ds++es)
 |t::ts,b,d::ds,es,h,a=>by
  rw[Zb,Zh]at a;rw[List.cons_append,List.cons_append,Zb,Zh];exact a.imp id fun x=>Ua ae x
 |[],_,_,_,_,a=>by grind [Zb]
 |_::_,_,[],_,h,_=>by simp at h
theorem Sn{t e:TypeId}{el sp:List (DataW H)}(a:P.underlying t=some (.slice e))(h:Wt P t (.slice el sp)):(el.length+sp.length)*P.bytesOf e<=reachBytes:=by
 grind [Ze,List.mem_cons_self,Wt]
theorem R3{t e:TypeId}{el sp:List (DataW H)}{d:DataW H}(c:P.underlying t=some (.slice e))(h:Wt P t (.slice el sp))(a:d∈el\/d∈sp):Wt P e d:=fun n b=>by
 refine h n ?_;grind [Ze,T2]
theorem Rk{t:TypeId}{fs:Array Field}{l:List (DataW H)}{i:Nat}{f:Field}{d:DataW H}(c:P.underlying t=some (.struct fs))(h:Wt P t (.agg l))(e:fs[i]?=some f)(a:l[i]?=some d):Wt P f.type d:=fun n b=>by
 refine h n ?_;rw[Ze,c];exact R1 (i:=i) (t:=f.type) (by simp[e]) a b
theorem GK{G:TypeId->DataW H->Prop}{f:TypeId->Option Sh}{n:Nat}{cs:List Value}
  (k:∀(t:TypeId) (s:Sh) (cs:List Value) (y:DataW H×List MemPlace),f t=some s->Zf enc P W 0 (fun _=>true) true n t cs=some y->G t y.1->∃x:s.T,DC (FW W) s x (cs.map<|Gf W.heap.size)/\JD s x/\LK s x):
  ∀(fs:List Field) (o:Nat) (s:Sh),P8 P f o fs=some s->(∀x∈fs,∃z,Zf enc P W 0 (fun _=>true) true n x.type ((cs.drop x.offset).take<|P.cellsOf x.type)=some z/\G x.type z.1)->
   ∃x:s.T,DC (FW W) s x (((cs.map<|Gf W.heap.size).drop o).take s.sz)/\JD s x/\LK s x
 |[],o,s,c,_=>by
  cases c;exact⟨(),by rfl,trivial,trivial⟩
 |[x],o,s,c,h=>by
  unfold P8 at c;split at c
  case h_2=>cases c
  rename_i i e;cases g:(Zg x.offset o&&Zg (P.cellsOf x.type) i.sz)with
  |false=>grind
  |true=>
  obtain⟨z,j,d⟩:=h x (by simp);grind [Za,Zm,Zn]
 |x::x'::l,o,s,c,h=>by
  unfold P8 at c;split at c
  case h_2=>cases c
  rename_i i e;cases g:(Zg x.offset o&&Zg (P.cellsOf x.type) i.sz)with
  |false=>grind
  |true=>
  rw[g]at c;simp only[wb,Option.map_eq_some_iff]at c;obtain⟨s2,m,rfl⟩:=c;simp only[Zd]at g;obtain⟨z,j,d⟩:=h x (by simp);rw[Za g.1,Za g.2]at j;obtain⟨a,a1,a2,a3⟩:=k _ _ _ _ e j d;obtain⟨b,b1,b2,b3⟩:=GK k (x'::l) (o+i.sz) s2 m (fun u p=>h u ae);refine⟨(a,b),?_,⟨a2,b2⟩,a3,b3⟩;refine⟨_,_,?_,a1,b1⟩;rw[Zm,Zn, <-List.drop_drop];exact List.take_add
theorem HS:∀(k r:Nat) (t:TypeId) (s:Sh) (cs:List Value) (y:DataW H×List MemPlace),SM P k t=some s->Zf enc P W 0 (fun _=>true) true r t cs=some y->Jb P k t=true->Wt P t y.1->
  ∃x:s.T,DC (FW W) s x (cs.map<|Gf W.heap.size)/\JD s x/\LK s x
 |0,_,_,_,_,_,m,_,_,_=>by cases m
 |k+1,r,t,s,cs,y,m,h,C,E=>by
  have ih:=HS k;unfold SM at m;split at m
  case h_1 q j=>
   cases m;obtain⟨n,rfl,_,V⟩:=Zl j h;exact⟨(n:Int),by rfl,by grind [JD,Lit.wf],trivial⟩
  case h_2 j=>
   cases m;obtain⟨b,rfl,_⟩:=DataW.trod_bool j h;exact⟨b,by rfl,trivial,trivial⟩
  case h_3 j=>
   cases m;obtain⟨b,rfl,_,V⟩:=DataW.trod_string j h;exact⟨b.data.toList,by rfl,by show b.data.toList.length<=maxLen;simp_all,trivial⟩
  case h_4 e j=>
   split at m
   case h_2=>cases m
   rename_i f A;cases D:(Zg (P.cellsOf e) f.sz&&Nat.blt 0 f.sz)with
   |false=>grind
   |true=>
   rw[D]at m;cases m;simp only[Zd]at D;have J:=Za D.1;have L:=Nat.le_of_ble_eq_true D.2;rcases DataW.trod_slice j h with⟨rfl,_⟩|⟨a,len,cap,B,F,n,rfl,rfl,R,_,hlc,Z,hel,S,N,_⟩
   ·exact⟨[],by simp[DC,Gf],by simp[JD],by simp[LK]⟩
   ·obtain⟨hrl,N⟩:=N rfl;rw[R]at E;have E:Wt P t (.slice (B.map (·.1)) (F.map (·.1))):=E;unfold Jb at C;rw[j]at C;simp only[A,Zd]at C;obtain⟨C,M⟩:=C;have M:=Za M;rw[J]at S N;by_cases h0:cap=0
    ·obtain rfl:len=0:=a8
     subst h0;exact⟨[],by simp[DC,Gf],by simp[JD],by simp[LK]⟩
    ·
     have all:∀i,i<cap->∃w z,W.cells? 0 (a.add<|i*f.sz) f.sz=some w/\Zf enc P W 0 (fun _=>true) true n e w=some z/\Wt P e z.1:=by
      intro i K;by_cases hl:i<len
      ·have g:=S i hl;rw[Zj a8]at g;rw[Zk]at g;obtain⟨w,v,o⟩:=g;exact⟨w,_,v,o,R3 j E ae⟩
      ·have g:=N (i-len) a8;rw[show len+(i-len)=i by omega,Zj a8]at g;rw[Zk]at g;obtain⟨w,v,o⟩:=g;exact⟨w,_,v,o,R3 j E ae⟩
     obtain⟨c0,z0,X,_,_⟩:=all 0 a8;rw[Nat.zero_mul,show a.add 0=a from by rfl]at X;obtain⟨c,tc,fz,hb,hsp,hoff,_⟩:=IQ X L;have O:a.block<W.heap.size:=ae;have Y:=Qd hb a8;obtain⟨ab,ao,ax⟩:=a;simp only at hsp hb hoff O Y;subst hsp;have u:∀i,i<cap->ao+i*f.sz+f.sz<=c.size/\∃x:f.T,DC (FW W) f x (((c.toList.map<|Gf W.heap.size).drop<|ao+i*f.sz).take f.sz)/\JD f x/\LK f x:=by
      intro i K;obtain⟨w,z,g,v,hz⟩:=all i K;rw[Addr.Fm]at g;obtain⟨c',tc',fz',hb',_,ho',rfl⟩:=IQ g a8;grind [Zm,Zn]
     obtain⟨l,I,hl2⟩:=ME (p:=fun i (x:f.T)=>DC (FW W) f x (((c.toList.map<|Gf W.heap.size).drop<|ao+i*f.sz).take f.sz)/\JD f x/\LK f x) len fun i K=>(u i a8).2
     refine⟨l,?_,?_,?_⟩
     ·simp only[DC];refine⟨.sl ab ao len cap 0,?_,.inr ⟨ab,ao,cap,0,_,by rw[I],by omega,Y,?_,.inl rfl,ae⟩⟩
      ·simp_all [Gf]
      ·rw[I];have:=(u (cap-1) a8).1;have o:cap*f.sz=(cap-1)*f.sz+f.sz:=by rw[<-Nat.succ_mul];grind
       grind
     ·refine⟨by omega,fun x Q=>?_⟩;obtain⟨i,K,rfl⟩:=List.mem_iff_getElem.1 Q;grind
     ·refine⟨?_,fun x Q=>?_⟩
      ·have V:=Sn j E;grind
      ·obtain⟨i,K,rfl⟩:=List.mem_iff_getElem.1 Q;grind
  case h_5 fs j=>
   split at m
   case h_2=>cases m
   rename_i f A;cases D:Zg (P.cellsOf t) f.sz with
   |false=>grind
   |true=>
   have J:=Za D;obtain⟨xs,n,rfl,R,U,hxl,hf⟩:=DataW.trod_struct j h;unfold Jb at C;obtain⟨x,g,v,o⟩:=GK (G:=fun t d=>Jb P k t=true/\Wt P t d) (cs:=cs) (fun t s cs y g v o=>ih n t s cs y g v o.1 o.2) fs.toList 0 _ A (by grind [List.mem_iff_getElem?,Rk]);grind [List.take_of_length_le]
  grind
theorem PA{k:Nat}{t:TypeId}{s:Sh}{v:Value}{d:DataW H}{p:List MemPlace}(g:SM P k t=some s)(c:s.Gs=false)(e:v.cells.toList=[v])(h:DataW.Trod enc P W 0 (fun _=>true) true t v d p)(f:Jb P k t=true)(i:Wt P t d):
  ∃x:s.T,PC (FW W) (AO s x) (Gf W.heap.size v)/\(JD s x/\LK s x)/\Aa (pW W) (Gf W.heap.size v) v:=by
 obtain⟨a,b⟩:=h;rw[e]at b;obtain⟨x,h1,h2⟩:=HS k a t s [v] (d,p) g b f i;exact⟨x,(PC.AO h1).2 c _ rfl,h2,Gq<|h1.ok _<|by simp⟩
theorem OV{k:Nat}{t:TypeId}{s:Sh}{v:Value}{d:DataW H}{p:List MemPlace}(b:P1 P k t=some s)(g:Zc P W .any base t v)(h:DataW.Trod enc P W 0 (fun _=>true) true t v d p)(o:Jb P k t=true)(u:Wt P t d):
  ∃x:s.T,PC (FW W) (AO s x) (Gj W.heap.size v)/\(JD s x/\LK s x)/\Aa (pW W) (Gj W.heap.size v) v:=by
 unfold P1 at b;split at b
 case h_1=>
  rename_i s1 c;cases b;obtain⟨⟨q,rfl⟩,x,a1,a2,a3⟩:=Rn c g h;exact⟨x,a1,⟨a2,trivial,trivial⟩,a3⟩
 unfold OS at b;split at b
 case h_2=>cases b
 rename_i i j;have plain:((∃k,P.underlying t=some (.int k))\/P.underlying t=some .bool\/P.underlying t=some .string\/∃e,P.underlying t=some (.slice e))->(bif i.Gs then none else some i)=some s->∃x:s.T,PC (FW W) (AO s x) (Gj W.heap.size v)/\(JD s x/\LK s x)/\Aa (pW W) (Gj W.heap.size v) v:=by
  intro r y;cases m:i.Gs with
  |true=>grind
  |false=>
   obtain⟨c,n⟩:=one_cell r g;have e:Gj W.heap.size v=Gf W.heap.size v:=by
    simp_all [Gj]
   grind [PA]
 split at b
 case h_1=>
  rename_i fs w;cases m:i.Gs with
  |false=>grind
  |true=>
   rw[m]at b;cases b;simp only[Zc,w]at g;obtain⟨cs,rfl,_,_⟩:=g;obtain⟨fuel,hf⟩:=h;obtain⟨x,c,n⟩:=HS k fuel t s _ (d,p) j hf o u;refine⟨x,(PC.AO c).1 m,n,?_⟩;refine⟨cs,rfl,?_⟩;have f:=c.ok;have e:(Value.agg cs).cells.toList=cs.toList:=rfl;rw[e]at f;generalize cs.toList=l at f;induction l with
   |nil=>simp
   |cons a l z=>
    grind [Ap,Gq]
 case h_2=>simp_all
 case h_3=>grind
 case h_4=>grind
 case h_5=>simp_all
 grind
theorem IE{k:Nat}:∀ {ts:List TypeId} {a:List Sh} {args:List Value} {ds:List (DataW H)} {p:List MemPlace},Jo P k ts=some a->(∀(j:Nat) t v,ts[j]?=some t->args[j]?=some v->Zc P W .any base t v)->
  DataW.TrodAll enc P W 0 (fun _=>true) true ts args ds p->(ts.all<|Jb P k)=true->(∀n∈Zb P ts ds,n<=reachBytes)->∃x:(A5 a).T,Gg (FW W) (Ah a x) (args.map<|Gj W.heap.size)/\(UU a x/\TB a x)/\Ab (pW W) (args.map<|Gj W.heap.size) args
 |[],a,args,ds,p,b,_,h,_,_=>by
  cases b;obtain⟨rfl,rfl,rfl⟩:=trodAll_nil h;exact⟨(),fun ρ N=>by rfl,⟨trivial,trivial⟩,by simp⟩
 |t::ts,a,args,ds,p,b,g,h,d,r=>by
  unfold Jo at b;split at b
  case h_2=>cases b
  rename_i s f q o;cases b;obtain⟨v0,c,z,l,p0,A,rfl,rfl,rfl,h0,w⟩:=trodAll_cons h;rw[List.all_cons,Zd]at d;rw[Zb]at r;obtain⟨x,a1,a2,a3⟩:=OV q (g 0 t v0 rfl rfl) h0 d.1 (fun n B=>(by simp_all));obtain⟨y,b1,b2,b3⟩:=IE o (fun j t v m e=>g (j+1) t v m e) w d.2 (by simp_all);have i:Ab (pW W) ((v0::c).map<|Gj W.heap.size) (v0::c):=by simp_all
  cases f with
  |nil=>exact⟨x,fun ρ N=>by
    have:=b1 ρ N;simp only[Ah,Bs]at this;simp only[Zi,Ah,this,Ax,Bs,wh];exact a1 ρ N,a2,i⟩
  |cons s2 u=>exact⟨(x,y),fun ρ N=>by
    simp only[Zi,Ah,Ax];exact⟨a1 ρ N,b1 ρ N⟩,⟨⟨a2.1,b2.1⟩,a2.2,b2.2⟩,i⟩
end
end Go.Pe
