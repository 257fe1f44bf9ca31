import Derived.Test.YtbmofcgiokkikaaGreatDoorX17
import Derived.Test.YtbmofcgiokkikaaGreatDoorRows
import Derived.LaidByTextLater
import Derived.SevenTiedAt
import Derived.LaidSub
import Derived.LaidOnce
/- A part of a proof; no law is stated here. -/
noncomputable section
open Go.DataW renaming weightsEach -> zc, weights -> zh, trod -> zq
open Nat renaming eq_of_beq_eq_true -> zd, beq -> zm
open List renaming mem_append -> ze, getElem?_eq_getElem -> zf, map_cons -> zi, all_eq_true -> zj, mem_cons -> zn, map_take -> zo, map_drop -> zp
open Bool renaming and_eq_true -> zg
open Array renaming getElem?_eq_some_iff -> zk
open Option renaming bind_eq_some_iff -> zl
namespace Go.Pe
open Go.Det Go.RowKit Go.ChangeShapes
def AaM:Sh->Nat
 | .str=>16
 | .list _=>24
 | .pair a b=>AaM a+AaM b
 | .unit=>0
 |_=>8
def Wt{H:Type}(P:Program)(t:TypeId)(d:DataW H):Prop:=∀n∈zh P t d,n<=reachBytes
def Uk(P:Program):Nat->TypeId->Bool
 |0,_=>false
 |f+1,t=>match P.underlying t with
  |some (.slice e)=>Uk P f e&&(match shP P f e with|some s=>zm (P.bytesOf e) (AaM s)|none=>false)
  |some (.struct fs)=>fs.toList.all fun x=>Uk P f x.type
  |_=>true
def RG:(s:Sh)->s.T->Prop
 | .list s,l=>(l:List s.T).length*AaM s<=reachBytes/\∀x∈(l:List s.T),RG s x
 | .pair a b,x=>RG a x.1/\RG b x.2
 |_,_=>True
def AdQ:(l:List Sh)->(BE l).T->Prop
 |[],_=>True
 |[a],x=>RG a x
 |a::b::l,x=>RG a x.1/\AdQ (b::l) x.2
section
variable {H:Type}{enc:TypeId×Value->H}{P:Program}{W:World}{base:Nat}
theorem Ac9{e:TypeId}{n:Nat}:∀ {l:List (DataW H)} {d:DataW H},d∈l->n∈zh P e d->n∈DataW.weightsAll P e l
 |x::l,d,a,b=>by
  rw[DataW.weightsAll,ze];rcases zn.1 a with rfl|a
  ·exact .inl b
  ·exact .inr<|Ac9 a b
theorem Abu{n:Nat}:∀ {ts:List TypeId} {l:List (DataW H)} {i:Nat} {t:TypeId} {d:DataW H},ts[i]?=some t->l[i]?=some d->n∈zh P t d->n∈zc P ts l
 |u::ts,x::l,0,t,d,a,b,c=>by
  cases a;cases b;rw[zc,ze];exact .inl c
 |u::ts,x::l,i+1,t,d,a,b,c=>by
  rw[zc,ze];exact .inr (Abu (i:=i) (by simpa using a) (by simpa using b) c)
 |[],_,_,_,_,a,_,_=>by simp at a
 |_::_,[],_,_,_,_,b,_=>by simp at b
theorem Af5{n:Nat}:∀ {ts b:List TypeId} {ds es:List (DataW H)},ts.length=ds.length->n∈zc P ts ds->n∈zc P (ts++b) (ds++es)
 |t::ts,b,d::ds,es,h,a=>by
  rw[zc,ze]at a;rw[List.cons_append,List.cons_append,zc,ze];exact a.imp id fun x=>Af5 (by simpa using h) x
 |[],_,_,_,_,a=>by simp[zc]at a
 |_::_,_,[],_,h,_=>by simp at h
theorem AcX{t e:TypeId}{el sp:List (DataW H)}(a:P.underlying t=some (.slice e))(h:Wt P t (.slice el sp)):(el.length+sp.length)*P.bytesOf e<=reachBytes:=by
 refine h _ ?_;rw[zh,a];exact List.mem_cons_self ..
theorem AbC{t e:TypeId}{el sp:List (DataW H)}{d:DataW H}(b:P.underlying t=some (.slice e))(h:Wt P t (.slice el sp))(c:d∈el\/d∈sp):Wt P e d:=fun n a=>by
 refine h n ?_;rw[zh,b];refine List.mem_cons_of_mem _<|ze.2 ?_;exact c.imp (fun x=>Ac9 x a)<|fun x=>Ac9 x a
theorem wY{t:TypeId}{fs:Array Field}{l:List (DataW H)}{i:Nat}{f:Field}{d:DataW H}(a:P.underlying t=some (.struct fs))(h:Wt P t (.agg l))(b:fs[i]?=some f)(c:l[i]?=some d):Wt P f.type d:=fun n e=>by
 refine h n ?_;rw[zh,a];exact Abu (i:=i) (t:=f.type) (by simp[b]) c e
theorem Qs{G:TypeId->DataW H->Prop}{f:TypeId->Option Sh}{n:Nat}{cs:List Value}
  (k:∀(t:TypeId) (s:Sh) (cs:List Value) (y:DataW H×List MemPlace),f t=some s->zq enc P W 0 (fun _=>true) true n t cs=some y->G t y.1->∃x:s.T,DC (FW W) s x (cs.map<|OS W.heap.size)/\WS s x/\RG s x):
  ∀(fs:List Field) (o:Nat) (s:Sh),oG P f o fs=some s->(∀x∈fs,∃z,zq enc P W 0 (fun _=>true) true n x.type ((cs.drop x.offset).take<|P.cellsOf x.type)=some z/\G x.type z.1)->
   ∃x:s.T,DC (FW W) s x (((cs.map<|OS W.heap.size).drop o).take s.sz)/\WS s x/\RG s x
 |[],o,s,c,_=>by
  cases c;exact⟨(),by simp[DC,Sh.sz],trivial,trivial⟩
 |[x],o,s,c,i=>by
  unfold oG at c;split at c
  case h_2=>cases c
  rename_i j g;cases d:(zm x.offset o&&zm (P.cellsOf x.type) j.sz)with
  |false=>rw[d]at c;cases c
  |true=>
  rw[d]at c;cases c;simp only[zg]at d;obtain⟨z,h,e⟩:=i x (by simp);rw[zd d.1,zd d.2]at h;have:=k _ _ _ _ g h e;simpa [zo,zp]using this
 |x::x'::l,o,s,c,i=>by
  unfold oG at c;split at c
  case h_2=>cases c
  rename_i j g;cases d:(zm x.offset o&&zm (P.cellsOf x.type) j.sz)with
  |false=>rw[d]at c;cases c
  |true=>
  rw[d]at c;simp only[we,Option.map_eq_some_iff]at c;obtain⟨s2,p,rfl⟩:=c;simp only[zg]at d;obtain⟨z,h,e⟩:=i x (by simp);rw[zd d.1,zd d.2]at h;obtain⟨a,a1,a2,a3⟩:=k _ _ _ _ g h e;obtain⟨b,b1,b2,b3⟩:=Qs k (x'::l) (o+j.sz) s2 p<|fun u m=>i u<|List.mem_cons_of_mem _ m;refine⟨(a,b),?_,⟨a2,b2⟩,a3,b3⟩;simp only[DC];refine⟨_,_,?_,a1,b1⟩;rw[zo,zp, <-List.drop_drop];exact List.take_add
theorem PX:∀(k D:Nat) (t:TypeId) (s:Sh) (cs:List Value) (y:DataW H×List MemPlace),shP P k t=some s->zq enc P W 0 (fun _=>true) true D t cs=some y->Uk P k t=true->Wt P t y.1->
  ∃x:s.T,DC (FW W) s x (cs.map<|OS W.heap.size)/\WS s x/\RG s x
 |0,_,_,_,_,_,j,_,_,_=>by cases j
 |k+1,D,t,s,cs,y,j,h,A,v=>by
  have ih:=PX k;unfold shP at j;split at j
  case h_1 q o=>
   cases j;obtain⟨n,rfl,_,N⟩:=DataW.trod_int o h;exact⟨(n:Int),by simp[DC,OS],by simpa [WS,Lit.wf]using N,trivial⟩
  case h_2 o=>
   cases j;obtain⟨b,rfl,_⟩:=DataW.trod_bool o h;exact⟨b,by simp[DC,OS],trivial,trivial⟩
  case h_3 o=>
   cases j;obtain⟨b,rfl,_,N⟩:=DataW.trod_string o h;exact⟨b.data.toList,by simp[DC,OS],by show b.data.toList.length<=maxLen;rw[Array.length_toList];exact N,trivial⟩
  case h_4 e o=>
   split at j
   case h_2=>cases j
   rename_i g w;cases C:(zm (P.cellsOf e) g.sz&&Nat.blt 0 g.sz)with
   |false=>rw[C]at j;cases j
   |true=>
   rw[C]at j;cases j;simp only[zg]at C;have O:=zd C.1;have S:=Nat.le_of_ble_eq_true C.2;rcases DataW.trod_slice o h with⟨rfl,_⟩|⟨a,len,cap,I,V,n,rfl,rfl,Y,_,U,hcm,hel,Z,hr,_⟩
   ·exact⟨[],by simp[DC,OS],by simp[WS],by simp[RG]⟩
   ·obtain⟨hrl,hr⟩:=hr rfl;rw[Y]at v;have v:Wt P t (.slice (I.map (·.1)) (V.map (·.1))):=v;unfold Uk at A;rw[o]at A;simp only[w,zg]at A;obtain⟨A,J⟩:=A;have J:=zd J;rw[O]at Z hr;by_cases h0:cap=0
    ·obtain rfl:len=0:=ae
     subst h0;exact⟨[],by simp[DC,OS],by simp[WS],by simp[RG]⟩
    ·
     have all:∀i,i<cap->∃L z,W.cells? 0 (a.add<|i*g.sz) g.sz=some L/\zq enc P W 0 (fun _=>true) true n e L=some z/\Wt P e z.1:=by
      intro i r;by_cases hl:i<len
      ·have m:=Z i hl;rw[zf ae]at m;rw[zl]at m;obtain⟨L,u,B⟩:=m;exact⟨L,_,u,B,AbC o v<|.inl<|List.mem_map.2 ⟨_,List.getElem_mem _,rfl⟩⟩
      ·have m:=hr (i-len) ae;rw[show len+(i-len)=i by omega,zf ae]at m;rw[zl]at m;obtain⟨L,u,B⟩:=m;exact⟨L,_,u,B,AbC o v<|.inr<|List.mem_map.2 ⟨_,List.getElem_mem _,rfl⟩⟩
     obtain⟨c0,z0,g0,_,_⟩:=all 0 ae;rw[Nat.zero_mul,show a.add 0=a from by simp[Addr.add]]at g0;obtain⟨c,tc,fz,hb,hsp,hoff,_⟩:=Sg g0 S;have F:a.block<W.heap.size:=(zk.1 hb).1;have hF:=sT hb ae;obtain⟨ab,ao,ax⟩:=a;simp only at hsp hb hoff F hF;subst hsp;have E:∀i,i<cap->ao+i*g.sz+g.sz<=c.size/\∃x:g.T,DC (FW W) g x (((c.toList.map<|OS W.heap.size).drop<|ao+i*g.sz).take g.sz)/\WS g x/\RG g x:=by
      intro i r;obtain⟨L,z,m,u,hz⟩:=all i r;rw[Addr.NL]at m;obtain⟨c',tc',fz',hb',_,ho',rfl⟩:=Sg m ae;simp only at hb' ho';rw[hb]at hb';cases hb';refine⟨ho',?_⟩;have:=ih _ _ _ _ _ w u A hz;simpa [zo,zp]using this
     obtain⟨l,R,K⟩:=cG (p:=fun i (x:g.T)=>DC (FW W) g x (((c.toList.map<|OS W.heap.size).drop<|ao+i*g.sz).take g.sz)/\WS g x/\RG g x) len fun i r=>(E i ae).2
     refine⟨l,?_,?_,?_⟩
     ·simp only[DC];refine⟨.sl ab ao len cap 0,?_,.inr ⟨ab,ao,cap,0,_,by rw[R],by omega,hF,?_,.inl rfl,fun i r=>(K i r).1⟩⟩
      ·have:(Value.slice (some ⟨ab,ao,none⟩) len cap)=.slice (some ⟨ab,ao,none⟩) len cap:=rfl;have hne:¬(len=0/\cap=0):=fun h=>h0 h.2
       cases cap with
       |zero=>exact wh rfl h0
       |succ cap=>simp[OS,F,U]
      ·rw[R];have:=(E (cap-1) ae).1;have u:len*g.sz<=cap*g.sz:=Nat.mul_le_mul_right _ U;have B:cap*g.sz=(cap-1)*g.sz+g.sz:=by rw[<-Nat.succ_mul];congr 1;omega
       simp;omega
     ·simp only[WS];refine⟨by omega,fun x X=>?_⟩;obtain⟨i,r,rfl⟩:=List.mem_iff_getElem.1 X;exact(K i r).2.1
     ·simp only[RG];refine⟨?_,fun x X=>?_⟩
      ·have N:=AcX o v;rw[List.length_map,J]at N;exact Nat.le_trans (Nat.mul_le_mul_right _ ae) N
      ·obtain⟨i,r,rfl⟩:=List.mem_iff_getElem.1 X;exact(K i r).2.2
  case h_5 fs o=>
   split at j
   case h_2=>cases j
   rename_i g w;cases C:zm (P.cellsOf t) g.sz with
   |false=>rw[C]at j;cases j
   |true=>
   rw[C]at j;cases j;have O:=zd C;obtain⟨xs,n,rfl,Y,hlen,hxl,hf⟩:=DataW.trod_struct o h;rw[Y]at v;have v:Wt P t (.agg (xs.map (·.1))):=v;unfold Uk at A;rw[o]at A;obtain⟨x,m,u,B⟩:=Qs (G:=fun t d=>Uk P k t=true/\Wt P t d) (cs:=cs) (fun t s cs y m u B=>ih n t s cs y m u B.1 B.2) fs.toList 0 _ w (fun f Q=>by
    obtain⟨i,r⟩:=List.mem_iff_getElem?.1 Q;have M:fs[i]?=some f:=by simpa using r
    have:=hf i f M;have F:=(zk.1 M).1;rw[zf ae]at this;exact⟨_,this,zj.1 A f Q,wY o v M<|by rw[List.getElem?_map,zf ae];rfl⟩)
   refine⟨x,?_,u,B⟩;rw[List.drop_zero,List.take_of_length_le<|by simp;omega]at m;exact m
  case h_6=>cases j
theorem iP{k:Nat}{t:TypeId}{s:Sh}{v:Value}{d:DataW H}{p:List MemPlace}(f:shP P k t=some s)(hp:s.RV=false)(g:v.cells.toList=[v])(h:DataW.Trod enc P W 0 (fun _=>true) true t v d p)(c:Uk P k t=true)(e:Wt P t d):
  ∃x:s.T,PC (FW W) (Cx s x) (OS W.heap.size v)/\(WS s x/\RG s x)/\Ad (pW W) (OS W.heap.size v) v:=by
 obtain⟨a,b⟩:=h;rw[g]at b;obtain⟨x,h1,h2⟩:=PX k a t s [v] (d,p) f b c e;simp only[zi,List.map_nil]at h1;exact⟨x,(PC.Cx h1).2 hp _ rfl,h2,UO<|h1.ok _<|by simp⟩
theorem sI{k:Nat}{t:TypeId}{s:Sh}{v:Value}{d:DataW H}{p:List MemPlace}(b:nL P k t=some s)(n:Value.okWide P W .any base t v)(h:DataW.Trod enc P W 0 (fun _=>true) true t v d p)(q:Uk P k t=true)(r:Wt P t d):
  ∃x:s.T,PC (FW W) (Cx s x) (R5 W.heap.size v)/\(WS s x/\RG s x)/\Ad (pW W) (R5 W.heap.size v) v:=by
 unfold nL at b;split at b
 case h_2=>cases b
 rename_i j g;have plain:((∃k,P.underlying t=some (.int k))\/P.underlying t=some .bool\/P.underlying t=some .string\/∃e,P.underlying t=some (.slice e))->(bif j.RV then none else some j)=some s->∃x:s.T,PC (FW W) (Cx s x) (R5 W.heap.size v)/\(WS s x/\RG s x)/\Ad (pW W) (R5 W.heap.size v) v:=by
  intro w m;cases hp:j.RV with
  |true=>rw[hp]at m;cases m
  |false=>
   rw[hp]at m;cases m;obtain⟨i,o⟩:=kK w n;have e:R5 W.heap.size v=OS W.heap.size v:=by
    unfold R5;split
    ·rename_i cs;exact wh rfl (o cs)
    ·rfl
   rw[e];exact iP g hp i h q r
 split at b
 case h_1=>
  rename_i fs f;cases hp:j.RV with
  |false=>rw[hp]at b;cases b
  |true=>
   rw[hp]at b;cases b;simp only[Value.okWide,f]at n;obtain⟨cs,rfl,_,_⟩:=n;obtain⟨fuel,hf⟩:=h;obtain⟨x,i,o⟩:=PX k fuel t s _ (d,p) g hf q r;refine⟨x,(PC.Cx i).1 hp,o,?_⟩;simp only[R5,Ad];refine⟨cs,rfl,?_⟩;have c:=i.ok;have e:(Value.agg cs).cells.toList=cs.toList:=rfl;rw[e]at c;generalize cs.toList=l at c;induction l with
   |nil=>simp
   |cons a l y=>
    simp only[zi,Bu];exact⟨UO (c _ (by simp)),y fun v u=>c v<|by simp only[zi,zn];exact .inr u⟩
 case h_2=>rename_i k f;exact plain (.inl ⟨k,f⟩) b
 case h_3=>rename_i f;exact plain (.inr<|.inl f) b
 case h_4=>rename_i f;exact plain (.inr<|.inr<|.inl f) b
 case h_5=>rename_i e f;exact plain (.inr<|.inr<|.inr ⟨e,f⟩) b
 case h_6=>cases b
theorem R8{k:Nat}:∀ {ts:List TypeId} {a:List Sh} {args:List Value} {ds:List (DataW H)} {p:List MemPlace},T6 P k ts=some a->(∀(j:Nat) t v,ts[j]?=some t->args[j]?=some v->Value.okWide P W .any base t v)->
  DataW.TrodAll enc P W 0 (fun _=>true) true ts args ds p->(ts.all<|Uk P k)=true->(∀n∈zc P ts ds,n<=reachBytes)->∃x:(BE a).T,Na (FW W) (Ag a x) (args.map<|R5 W.heap.size)/\(wfL a x/\AdQ a x)/\Ax (pW W) (args.map<|R5 W.heap.size) args
 |[],a,args,ds,p,b,_,h,_,_=>by
  cases b;obtain⟨rfl,rfl,rfl⟩:=trodAll_nil h;exact⟨(),fun ρ N=>by simp[Ag],⟨trivial,trivial⟩,by simp⟩
 |t::ts,a,args,ds,p,b,l,h,f,g=>by
  unfold T6 at b;split at b
  case h_2=>cases b
  rename_i s d m w;cases b;obtain⟨v0,c,z,o,p0,q0,rfl,rfl,rfl,h0,u⟩:=trodAll_cons h;rw[List.all_cons,zg]at f;rw[zc]at g;obtain⟨x,a1,a2,a3⟩:=sI m (l 0 t v0 rfl rfl) h0 f.1<|fun n i=>g n<|ze.2<|.inl i;obtain⟨y,b1,b2,b3⟩:=R8 w (fun j t v q e=>l (j+1) t v q e) u f.2<|fun n i=>g n<|ze.2<|.inr i;have hr:Ax (pW W) ((v0::c).map<|R5 W.heap.size) (v0::c):=by simp only[zi,Bu];exact⟨a3,b3⟩
  cases d with
  |nil=>exact⟨x,fun ρ N=>by
    have:=b1 ρ N;simp only[Ag,CH]at this;simp only[zi,Ag,this,Bo,CH,ve];exact a1 ρ N,a2,hr⟩
  |cons s2 r=>exact⟨(x,y),fun ρ N=>by
    simp only[zi,Ag,Bo];exact⟨a1 ρ N,b1 ρ N⟩,⟨⟨a2.1,b2.1⟩,a2.2,b2.2⟩,hr⟩
end
open Go.Sp (AF Bn Bm AW EB Bx B3)
theorem AdF{l:Bm}(h:RG Bh l):Sp.hI l=true:=by
 obtain⟨_,_,_,_,a,_⟩:=h;have a:l.2.2.2.2.length*32<=140737488351232:=a;exact w4 ae
theorem AbZ{c:AF}(h:RG Bc c):Sp.smC c=true:=by
 obtain⟨⟨s1,s2⟩,⟨t1,_⟩,l1,a⟩:=h;have s1:c.1.length*88<=140737488351232:=s1;have t1:c.2.1.length*40<=140737488351232:=t1;have l1:c.2.2.length*96<=140737488351232:=l1;have s2:∀x∈c.1,RG Bt x:=s2;have a:∀x∈c.2.2,RG Bh x:=a;unfold Sp.smC;refine Ab (Ab (Ab (ad ae ae)<|w4 ae)<|zj.2 fun x b=>?_)<|zj.2 fun x b=>AdF<|a x b;obtain⟨_,_,_,_,d,_⟩:=s2 x b;have d:x.2.2.2.2.length*24<=140737488351232:=d;exact w4 ae
open Go.Sp (AF B3)
theorem uT{c:AF}(h:RG Bc c):c.2.1.all Sp.Wd=true:=by
 obtain⟨_,⟨_,t2⟩,_⟩:=h;have t2:∀x∈c.2.1,RG (.pair .str<|.list i64) x:=t2;refine zj.2 fun x b=>?_
 obtain⟨_,a,_⟩:=t2 x b;have a:x.2.length*8<=140737488351232:=a;exact w4 ae
theorem Agk{x:(BE NG.ins).T}(h:AdQ NG.ins x):NG.pre x=true:=Ab (AbZ h.1)<|uT h.1
end Go.Pe
namespace Go.Proofs.YtbmofcgiokkikaaGreatDoor
open Go
set_option maxRecDepth 100000
theorem seatTie1:Tryz.prog.laidByTextLater [("math/bits.deBruijn32tab",Rows.laid_math_bits_deBruijn32tab),("math/bits.deBruijn64tab",Rows.laid_math_bits_deBruijn64tab),("internal/strconv.uint64pow10",Rows.laid_internal_strconv_uint64pow10),("unicode/utf8.acceptRanges",Rows.laid_unicode_utf8_acceptRanges),("strconv.ErrRange",Rows.laid_strconv_ErrRange),("strconv.ErrSyntax",Rows.laid_strconv_ErrSyntax)] [.data,.data,.data,.data,.sentinel,.sentinel] true:=
 Program.laidByTextLater_by_one 72 8 65 ag ag ag ag ag ag (fun _ _=>by kernel_rfl)
theorem noOwnUnsafe:Tryz.pinned.checked.prog.headLifts.contains "ownunsafe"=false:=by kernel_rfl
theorem fits1:Tryz.pinned.checked.prog.listedFits Rows.ratingSumsRow.laid=true:=by
 unfold Program.listedFits;rw[noOwnUnsafe];kernel_rfl
theorem ratingSums_row_tie:Rows.ratingSumsRow.laidByTextAt .later Tryz.pinned [.data,.data,.data,.data,.sentinel,.sentinel,.pinned] true:=by
 refine OpenClaim.laidByTextAt_pinned rfl rfl seatTie1 rfl rfl rfl rfl (fun y a _e=>?_) fits1;simp only[Rows.ratingSumsRow,List.zip_cons_cons,List.zip_nil_right,zn,List.mem_nil_iff,or_false]at a;rcases a with rfl|rfl|rfl|rfl|rfl|rfl|rfl
 ·cases _e
 ·cases _e
 ·cases _e
 ·cases _e
 ·cases _e
 ·cases _e
 ·exact⟨by kernel_rfl,by kernel_rfl⟩
end Go.Proofs.YtbmofcgiokkikaaGreatDoor
