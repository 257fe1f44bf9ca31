import Derived.Test.YtlohiljbghionaaGreatDoorX16
import Derived.Test.YtlohiljbghionaaGreatDoorRows
import Derived.LaidByTextLater
import Derived.SevenTiedAt
import Derived.LaidSub
import Derived.LaidOnce
/- A part of a proof (no law is stated here). Made by program out of texts by AI agents. -/
noncomputable section
open Go.DataW renaming weightsEach -> zc, weights -> zh, trod -> zq
open Nat renaming eq_of_beq_eq_true -> zd, beq -> zm
open List renaming mem_append -> ze, getElem?_eq_getElem -> zf, map_cons -> zi, all_eq_true -> zl, mem_cons -> zn, map_take -> zo, map_drop -> zp
open Bool renaming and_eq_true -> zg
open Array renaming getElem?_eq_some_iff -> zj
open Option renaming bind_eq_some_iff -> zk
namespace Go.Pe
open Go.Det Go.RowKit Go.ChangeShapes
def gT:Sh->Nat
 | .str=>16
 | .list _=>24
 | .pair a b=>gT a+gT b
 | .unit=>0
 |_=>8
def Wt{H:Type}(P:Program)(t:TypeId)(d:DataW H):Prop:=∀n∈zh P t d,n<=reachBytes
def RF(P:Program):Nat->TypeId->Bool
 |0,_=>false
 |f+1,t=>match P.underlying t with
  |some (.slice e)=>RF P f e&&(match nS P f e with|some s=>zm (P.bytesOf e) (gT s)|none=>false)
  |some (.struct fs)=>fs.toList.all fun x=>RF P f x.type
  |_=>true
def P5:(s:Sh)->s.T->Prop
 | .list s,l=>(l:List s.T).length*gT s<=reachBytes/\∀x∈(l:List s.T),P5 s x
 | .pair a b,x=>P5 a x.1/\P5 b x.2
 |_,_=>True
def pC:(l:List Sh)->(Bw l).T->Prop
 |[],_=>True
 |[a],x=>P5 a x
 |a::b::l,x=>P5 a x.1/\pC (b::l) x.2
section
variable {H:Type}{enc:TypeId×Value->H}{P:Program}{W:World}{base:Nat}
theorem qX{e:TypeId}{n:Nat}:∀ {l:List (DataW H)} {d:DataW H},d∈l->n∈zh P e d->n∈DataW.weightsAll P e l
 |x::l,d,a,b=>by
  rw[DataW.weightsAll,ze];rcases zn.1 a with rfl|a
  ·exact .inl b
  ·exact .inr<|qX a b
theorem nD{n:Nat}:∀ {ts:List TypeId} {l:List (DataW H)} {i:Nat} {t:TypeId} {d:DataW H},ts[i]?=some t->l[i]?=some d->n∈zh P t d->n∈zc P ts l
 |u::ts,x::l,0,t,d,a,b,c=>by
  cases a;cases b;rw[zc,ze];exact .inl c
 |u::ts,x::l,i+1,t,d,a,b,c=>by
  rw[zc,ze];exact .inr (nD (i:=i) (by simpa using a) (by simpa using b) c)
 |[],_,_,_,_,a,_,_=>by simp at a
 |_::_,[],_,_,_,_,b,_=>by simp at b
theorem sE{n:Nat}:∀ {ts b:List TypeId} {ds es:List (DataW H)},ts.length=ds.length->n∈zc P ts ds->n∈zc P (ts++b) (ds++es)
 |t::ts,b,d::ds,es,h,a=>by
  rw[zc,ze]at a;rw[List.cons_append,List.cons_append,zc,ze];exact a.imp id fun x=>sE (by simpa using h) x
 |[],_,_,_,_,a=>by simp[zc]at a
 |_::_,_,[],_,h,_=>by simp at h
theorem qV{t e:TypeId}{el sp:List (DataW H)}(a:P.underlying t=some (.slice e))(h:Wt P t (.slice el sp)):(el.length+sp.length)*P.bytesOf e<=reachBytes:=by
 refine h _ ?_;rw[zh,a];exact List.mem_cons_self ..
theorem mU{t e:TypeId}{el sp:List (DataW H)}{d:DataW H}(b:P.underlying t=some (.slice e))(h:Wt P t (.slice el sp))(c:d∈el\/d∈sp):Wt P e d:=fun n a=>by
 refine h n ?_;rw[zh,b];refine List.mem_cons_of_mem _<|ze.2 ?_;exact c.imp (fun x=>qX x a)<|fun x=>qX x a
theorem kC{t:TypeId}{fs:Array Field}{l:List (DataW H)}{i:Nat}{f:Field}{d:DataW H}(c:P.underlying t=some (.struct fs))(h:Wt P t (.agg l))(b:fs[i]?=some f)(e:l[i]?=some d):Wt P f.type d:=fun n a=>by
 refine h n ?_;rw[zh,c];exact nD (i:=i) (t:=f.type) (by simp[b]) e a
theorem Nc{G:TypeId->DataW H->Prop}{f:TypeId->Option Sh}{n:Nat}{cs:List Value}
  (k:∀(t:TypeId) (s:Sh) (cs:List Value) (y:DataW H×List MemPlace),f t=some s->zq enc P W 0 (fun _=>true) true n t cs=some y->G t y.1->∃x:s.T,DC (FW W) s x (cs.map<|Mn W.heap.size)/\Sa s x/\P5 s x):
  ∀(fs:List Field) (o:Nat) (s:Sh),aG P f o fs=some s->(∀x∈fs,∃z,zq enc P W 0 (fun _=>true) true n x.type ((cs.drop x.offset).take<|P.cellsOf x.type)=some z/\G x.type z.1)->
   ∃x:s.T,DC (FW W) s x (((cs.map<|Mn W.heap.size).drop o).take s.sz)/\Sa s x/\P5 s x
 |[],o,s,c,_=>by
  cases c;exact⟨(),by simp[DC,Sh.sz],trivial,trivial⟩
 |[x],o,s,c,i=>by
  unfold aG at c;split at c
  case h_2=>cases c
  rename_i j g;cases d:(zm x.offset o&&zm (P.cellsOf x.type) j.sz)with
  |false=>rw[d]at c;cases c
  |true=>
  rw[d]at c;cases c;simp only[zg]at d;obtain⟨z,h,e⟩:=i x (by simp);rw[zd d.1,zd d.2]at h;have:=k _ _ _ _ g h e;simpa [zo,zp]using this
 |x::x'::l,o,s,c,i=>by
  unfold aG at c;split at c
  case h_2=>cases c
  rename_i j g;cases d:(zm x.offset o&&zm (P.cellsOf x.type) j.sz)with
  |false=>rw[d]at c;cases c
  |true=>
  rw[d]at c;simp only[we,Option.map_eq_some_iff]at c;obtain⟨s2,m,rfl⟩:=c;simp only[zg]at d;obtain⟨z,h,e⟩:=i x (by simp);rw[zd d.1,zd d.2]at h;obtain⟨a,a1,a2,a3⟩:=k _ _ _ _ g h e;obtain⟨b,b1,b2,b3⟩:=Nc k (x'::l) (o+j.sz) s2 m<|fun u p=>i u<|List.mem_cons_of_mem _ p;refine⟨(a,b),?_,⟨a2,b2⟩,a3,b3⟩;simp only[DC];refine⟨_,_,?_,a1,b1⟩;rw[zo,zp, <-List.drop_drop];exact List.take_add
theorem MQ:∀(k E:Nat) (t:TypeId) (s:Sh) (cs:List Value) (y:DataW H×List MemPlace),nS P k t=some s->zq enc P W 0 (fun _=>true) true E t cs=some y->RF P k t=true->Wt P t y.1->
  ∃x:s.T,DC (FW W) s x (cs.map<|Mn W.heap.size)/\Sa s x/\P5 s x
 |0,_,_,_,_,_,j,_,_,_=>by cases j
 |k+1,E,t,s,cs,y,j,h,w,v=>by
  have ih:=MQ k;unfold nS at j;split at j
  case h_1 q o=>
   cases j;obtain⟨n,rfl,_,N⟩:=DataW.trod_int o h;exact⟨(n:Int),by simp[DC,Mn],by simpa [Sa,Lit.wf]using N,trivial⟩
  case h_2 o=>
   cases j;obtain⟨b,rfl,_⟩:=DataW.trod_bool o h;exact⟨b,by simp[DC,Mn],trivial,trivial⟩
  case h_3 o=>
   cases j;obtain⟨b,rfl,_,N⟩:=DataW.trod_string o h;exact⟨b.data.toList,by simp[DC,Mn],by show b.data.toList.length<=maxLen;rw[Array.length_toList];exact N,trivial⟩
  case h_4 e o=>
   split at j
   case h_2=>cases j
   rename_i g C;cases B:(zm (P.cellsOf e) g.sz&&Nat.blt 0 g.sz)with
   |false=>rw[B]at j;cases j
   |true=>
   rw[B]at j;cases j;simp only[zg]at B;have S:=zd B.1;have O:=Nat.le_of_ble_eq_true B.2;rcases DataW.trod_slice o h with⟨rfl,_⟩|⟨a,len,cap,L,V,n,rfl,rfl,Y,_,R,hcm,hel,he,X,_⟩
   ·exact⟨[],by simp[DC,Mn],by simp[Sa],by simp[P5]⟩
   ·obtain⟨hrl,X⟩:=X rfl;rw[Y]at v;have v:Wt P t (.slice (L.map (·.1)) (V.map (·.1))):=v;unfold RF at w;rw[o]at w;simp only[C,zg]at w;obtain⟨w,K⟩:=w;have K:=zd K;rw[S]at he X;by_cases h0:cap=0
    ·obtain rfl:len=0:=by omega
     subst h0;exact⟨[],by simp[DC,Mn],by simp[Sa],by simp[P5]⟩
    ·
     have all:∀i,i<cap->∃M z,W.cells? 0 (a.add<|i*g.sz) g.sz=some M/\zq enc P W 0 (fun _=>true) true n e M=some z/\Wt P e z.1:=by
      intro i r;by_cases hl:i<len
      ·have m:=he i hl;rw[zf<|by omega]at m;rw[zk]at m;obtain⟨M,u,A⟩:=m;exact⟨M,_,u,A,mU o v<|.inl<|List.mem_map.2 ⟨_,List.getElem_mem _,rfl⟩⟩
      ·have m:=X (i-len) (by omega);rw[show len+(i-len)=i by omega,zf<|by omega]at m;rw[zk]at m;obtain⟨M,u,A⟩:=m;exact⟨M,_,u,A,mU o v<|.inr<|List.mem_map.2 ⟨_,List.getElem_mem _,rfl⟩⟩
     obtain⟨c0,z0,g0,_,_⟩:=all 0 (by omega);rw[Nat.zero_mul,show a.add 0=a from by simp[Addr.add]]at g0;obtain⟨c,tc,fz,hb,hsp,hoff,_⟩:=Qf g0 O;have I:a.block<W.heap.size:=(zj.1 hb).1;have hF:=YH hb (by omega);obtain⟨ab,ao,ax⟩:=a;simp only at hsp hb hoff I hF;subst hsp;have D:∀i,i<cap->ao+i*g.sz+g.sz<=c.size/\∃x:g.T,DC (FW W) g x (((c.toList.map<|Mn W.heap.size).drop<|ao+i*g.sz).take g.sz)/\Sa g x/\P5 g x:=by
      intro i r;obtain⟨M,z,m,u,hz⟩:=all i r;rw[Addr.G5]at m;obtain⟨c',tc',fz',hb',_,ho',rfl⟩:=Qf m (by omega);simp only at hb' ho';rw[hb]at hb';cases hb';refine⟨ho',?_⟩;have:=ih _ _ _ _ _ C u w hz;simpa [zo,zp]using this
     obtain⟨l,Q,F⟩:=Vq (p:=fun i (x:g.T)=>DC (FW W) g x (((c.toList.map<|Mn W.heap.size).drop<|ao+i*g.sz).take g.sz)/\Sa g x/\P5 g x) len fun i r=>(D i<|by omega).2
     refine⟨l,?_,?_,?_⟩
     ·simp only[DC];refine⟨.sl ab ao len cap 0,?_,.inr ⟨ab,ao,cap,0,_,by rw[Q],by omega,hF,?_,.inl rfl,fun i r=>(F i r).1⟩⟩
      ·have:(Value.slice (some ⟨ab,ao,none⟩) len cap)=.slice (some ⟨ab,ao,none⟩) len cap:=rfl;have hne:¬(len=0/\cap=0):=fun h=>h0 h.2
       cases cap with
       |zero=>exact wh rfl h0
       |succ cap=>simp[Mn,I,R]
      ·rw[Q];have:=(D (cap-1)<|by omega).1;have u:len*g.sz<=cap*g.sz:=Nat.mul_le_mul_right _ R;have A:cap*g.sz=(cap-1)*g.sz+g.sz:=by rw[<-Nat.succ_mul];congr 1;omega
       simp;omega
     ·simp only[Sa];refine⟨by omega,fun x Z=>?_⟩;obtain⟨i,r,rfl⟩:=List.mem_iff_getElem.1 Z;exact(F i r).2.1
     ·simp only[P5];refine⟨?_,fun x Z=>?_⟩
      ·have N:=qV o v;rw[List.length_map,K]at N;exact Nat.le_trans (Nat.mul_le_mul_right _<|by omega) N
      ·obtain⟨i,r,rfl⟩:=List.mem_iff_getElem.1 Z;exact(F i r).2.2
  case h_5 fs o=>
   split at j
   case h_2=>cases j
   rename_i g C;cases B:zm (P.cellsOf t) g.sz with
   |false=>rw[B]at j;cases j
   |true=>
   rw[B]at j;cases j;have S:=zd B;obtain⟨xs,n,rfl,Y,hlen,hxl,hf⟩:=DataW.trod_struct o h;rw[Y]at v;have v:Wt P t (.agg (xs.map (·.1))):=v;unfold RF at w;rw[o]at w;obtain⟨x,m,u,A⟩:=Nc (G:=fun t d=>RF P k t=true/\Wt P t d) (cs:=cs) (fun t s cs y m u A=>ih n t s cs y m u A.1 A.2) fs.toList 0 _ C (fun f U=>by
    obtain⟨i,r⟩:=List.mem_iff_getElem?.1 U;have J:fs[i]?=some f:=by simpa using r
    have:=hf i f J;have I:=(zj.1 J).1;rw[zf<|by omega]at this;exact⟨_,this,zl.1 w f U,kC o v J<|by rw[List.getElem?_map,zf<|by omega];rfl⟩)
   refine⟨x,?_,u,A⟩;rw[List.drop_zero,List.take_of_length_le<|by simp;omega]at m;exact m
  case h_6=>cases j
theorem ZL{k:Nat}{t:TypeId}{s:Sh}{v:Value}{d:DataW H}{p:List MemPlace}(g:nS P k t=some s)(i:s.O5=false)(c:v.cells.toList=[v])(h:DataW.Trod enc P W 0 (fun _=>true) true t v d p)(f:RF P k t=true)(e:Wt P t d):
  ∃x:s.T,PC (FW W) (B1 s x) (Mn W.heap.size v)/\(Sa s x/\P5 s x)/\Ab (pW W) (Mn W.heap.size v) v:=by
 obtain⟨a,b⟩:=h;rw[c]at b;obtain⟨x,h1,h2⟩:=MQ k a t s [v] (d,p) g b f e;simp only[zi,List.map_nil]at h1;exact⟨x,(PC.B1 h1).2 i _ rfl,h2,Re<|h1.ok _<|by simp⟩
theorem cQ{k:Nat}{t:TypeId}{s:Sh}{v:Value}{d:DataW H}{p:List MemPlace}(b:bT P k t=some s)(q:Value.okWide P W .any base t v)(h:DataW.Trod enc P W 0 (fun _=>true) true t v d p)(r:RF P k t=true)(u:Wt P t d):
  ∃x:s.T,PC (FW W) (B1 s x) (Pa W.heap.size v)/\(Sa s x/\P5 s x)/\Ab (pW W) (Pa W.heap.size v) v:=by
 unfold bT at b;split at b
 case h_2=>cases b
 rename_i m i;have plain:((∃k,P.underlying t=some (.int k))\/P.underlying t=some .bool\/P.underlying t=some .string\/∃e,P.underlying t=some (.slice e))->(bif m.O5 then none else some m)=some s->∃x:s.T,PC (FW W) (B1 s x) (Pa W.heap.size v)/\(Sa s x/\P5 s x)/\Ab (pW W) (Pa W.heap.size v) v:=by
  intro w n;cases g:m.O5 with
  |true=>rw[g]at n;cases n
  |false=>
   rw[g]at n;cases n;obtain⟨j,o⟩:=YG w q;have e:Pa W.heap.size v=Mn W.heap.size v:=by
    unfold Pa;split
    ·rename_i cs;exact wh rfl (o cs)
    ·rfl
   rw[e];exact ZL i g j h r u
 split at b
 case h_1=>
  rename_i fs f;cases g:m.O5 with
  |false=>rw[g]at b;cases b
  |true=>
   rw[g]at b;cases b;simp only[Value.okWide,f]at q;obtain⟨cs,rfl,_,_⟩:=q;obtain⟨fuel,hf⟩:=h;obtain⟨x,j,o⟩:=MQ k fuel t s _ (d,p) i hf r u;refine⟨x,(PC.B1 j).1 g,o,?_⟩;simp only[Pa,Ab];refine⟨cs,rfl,?_⟩;have c:=j.ok;have e:(Value.agg cs).cells.toList=cs.toList:=rfl;rw[e]at c;generalize cs.toList=l at c;induction l with
   |nil=>simp
   |cons a l y=>
    simp only[zi,A5];exact⟨Re (c _ (by simp)),y fun v z=>c v<|by simp only[zi,zn];exact .inr z⟩
 case h_2=>rename_i k f;exact plain (.inl ⟨k,f⟩) b
 case h_3=>rename_i f;exact plain (.inr<|.inl f) b
 case h_4=>rename_i f;exact plain (.inr<|.inr<|.inl f) b
 case h_5=>rename_i e f;exact plain (.inr<|.inr<|.inr ⟨e,f⟩) b
 case h_6=>cases b
theorem Px{k:Nat}:∀ {ts:List TypeId} {a:List Sh} {args:List Value} {ds:List (DataW H)} {p:List MemPlace},Q0 P k ts=some a->(∀(j:Nat) t v,ts[j]?=some t->args[j]?=some v->Value.okWide P W .any base t v)->
  DataW.TrodAll enc P W 0 (fun _=>true) true ts args ds p->(ts.all<|RF P k)=true->(∀n∈zc P ts ds,n<=reachBytes)->∃x:(Bw a).T,LH (FW W) (Ae a x) (args.map<|Pa W.heap.size)/\(xZ a x/\pC a x)/\Aq (pW W) (args.map<|Pa W.heap.size) args
 |[],a,args,ds,p,b,_,h,_,_=>by
  cases b;obtain⟨rfl,rfl,rfl⟩:=trodAll_nil h;exact⟨(),fun ρ N=>by simp[Ae],⟨trivial,trivial⟩,by simp⟩
 |t::ts,a,args,ds,p,b,l,h,d,f=>by
  unfold Q0 at b;split at b
  case h_2=>cases b
  rename_i s i r u;cases b;obtain⟨v0,c,A,z,p0,q0,rfl,rfl,rfl,h0,q⟩:=trodAll_cons h;rw[List.all_cons,zg]at d;rw[zc]at f;obtain⟨x,a1,a2,a3⟩:=cQ r (l 0 t v0 rfl rfl) h0 d.1<|fun n g=>f n<|ze.2<|.inl g;obtain⟨y,b1,b2,b3⟩:=Px u (fun j t v o e=>l (j+1) t v o e) q d.2<|fun n g=>f n<|ze.2<|.inr g;have m:Aq (pW W) ((v0::c).map<|Pa W.heap.size) (v0::c):=by simp only[zi,A5];exact⟨a3,b3⟩
  cases i with
  |nil=>exact⟨x,fun ρ N=>by
    have:=b1 ρ N;simp only[Ae,BU]at this;simp only[zi,Ae,this,AU,BU,vc];exact a1 ρ N,a2,m⟩
  |cons s2 w=>exact⟨(x,y),fun ρ N=>by
    simp only[zi,Ae,AU];exact⟨a1 ρ N,b1 ρ N⟩,⟨⟨a2.1,b2.1⟩,a2.2,b2.2⟩,m⟩
end
open Go.Sp (ER EV DL Cs K9 BX Fg)
theorem aJ{l:DL}(h:P5 Ca l):Sp.UJ l=true:=by
 obtain⟨_,_,_,_,a,_⟩:=h;have a:l.2.2.2.2.length*32<=140737488351232:=a;exact w4 (by omega)
theorem qK{c:ER}(h:P5 Ve c):Sp.mJ c=true:=by
 obtain⟨⟨s1,s2⟩,⟨e,_⟩,f,b⟩:=h;have s1:c.1.length*88<=140737488351232:=s1;have e:c.2.1.length*40<=140737488351232:=e;have f:c.2.2.length*96<=140737488351232:=f;have s2:∀x∈c.1,P5 Ft x:=s2;have b:∀x∈c.2.2,P5 Ca x:=b;unfold Sp.mJ;refine Aa (Aa (Aa (Aa (w4<|by omega)<|w4<|by omega)<|w4<|by omega)<|zl.2 fun x a=>?_)<|zl.2 fun x a=>aJ<|b x a;obtain⟨_,_,_,_,d,_⟩:=s2 x a;have d:x.2.2.2.2.length*24<=140737488351232:=d;exact w4 (by omega)
theorem xG{x:(Bw Jr.ins).T}(h:pC Jr.ins x):Jr.pre x=true:=Aa (qK h.1)<|aJ h.2
abbrev MU:Au:=Jr
end Go.Pe
namespace Go.Proofs.YtlohiljbghionaaGreatDoor
open Go
set_option maxRecDepth 100000
theorem seatTie1:Tryz.prog.laidByTextLater [("math/bits.deBruijn32tab",Rows.laid_math_bits_deBruijn32tab),("math/bits.deBruijn64tab",Rows.laid_math_bits_deBruijn64tab),("internal/strconv.uint64pow10",Rows.laid_internal_strconv_uint64pow10),("unicode/utf8.acceptRanges",Rows.laid_unicode_utf8_acceptRanges),("strconv.ErrRange",Rows.laid_strconv_ErrRange),("strconv.ErrSyntax",Rows.laid_strconv_ErrSyntax)] [.data,.data,.data,.data,.sentinel,.sentinel] true:=
 Program.laidByTextLater_by_one 72 8 65 (by kernel_rfl) (by kernel_rfl) (by kernel_rfl) (by kernel_rfl) (by kernel_rfl) (by kernel_rfl) (fun _ _=>by kernel_rfl)
theorem noOwnUnsafe:Tryz.pinned.checked.prog.headLifts.contains "ownunsafe"=false:=by kernel_rfl
theorem fits1:Tryz.pinned.checked.prog.listedFits Rows.ratingCoursesRow.laid=true:=by
 unfold Program.listedFits;rw[noOwnUnsafe];kernel_rfl
theorem ratingCourses_row_tie:Rows.ratingCoursesRow.laidByTextAt .later Tryz.pinned [.data,.data,.data,.data,.sentinel,.sentinel,.pinned] true:=by
 refine OpenClaim.laidByTextAt_pinned rfl rfl seatTie1 rfl rfl rfl rfl (fun y a _e=>?_) fits1;simp only[Rows.ratingCoursesRow,List.zip_cons_cons,List.zip_nil_right,zn,List.mem_nil_iff,or_false]at a;rcases a with rfl|rfl|rfl|rfl|rfl|rfl|rfl
 ·cases _e
 ·cases _e
 ·cases _e
 ·cases _e
 ·cases _e
 ·cases _e
 ·exact⟨by kernel_rfl,by kernel_rfl⟩
end Go.Proofs.YtlohiljbghionaaGreatDoor
