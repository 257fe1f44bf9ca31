import Derived.Test.YtbmofcgiokkikaaGreatDoorX16
/- A part of a proof; no law is stated here. -/
noncomputable section
open Go.Pe.Ends renaming tt -> zc, leaf -> zf, Ah -> zg, ite -> zh, ff -> zj, eq -> zx
open Go.IntKind renaming wrap -> zd, i64 -> zo
open Int renaming toNat_natCast -> ze, toNat -> zy
open List renaming length_cons -> zi, mem_cons_self -> zk, take_length -> zm, mem_of_mem_drop -> zn, length_append -> zp, getD_eq_getElem?_getD -> zr, getElem?_eq_getElem -> zw, all_eq_true -> zz, take -> z8, take_succ_eq_append_getElem -> yb, all_cons -> yc, length_pos_iff -> ye, length_map -> yf, drop_eq_getElem_cons -> yg, take_append_drop -> yk, length_take -> ym, map_append -> yn, drop -> yu, mem_map -> yv, take_of_length_le -> yw, any_cons -> yy, mem_cons -> y7
open Bool renaming and_eq_true -> zl, false_and -> z6, true_and -> yh, true_or -> yi, and_false -> yp, false_or -> yr, and_true -> yt, or_true -> y8
open Nat renaming add -> zq, zero_le -> zt, le_refl -> yx, sub -> qd
open Go.Pe.Sh renaming str -> zu, int -> z7, list -> yd
open Go.Pe.Ac renaming of -> ya
open Go.Sp renaming Ck -> yj, Bk -> yo, Bw -> yz, Nu -> y9, first -> qc
open Option renaming getD -> yq
namespace Go.Sp
theorem cG{n:Int}{seen:List Bf}{t:B7}{l:List B7}{o:List Bf}(h:∀x,x∈o↔x∈seen):F9 n seen (t::l)=if KL t.1 o≠0 then KL t.1 o else if (t.2.length:Int)≠n then 2 else if Ew t.2=true then 3 else F9 n (t.1::seen) l:=by
 rw[F9,UT];unfold has;cases isName t.1
 ·rfl
 ·by_cases k:t.1∈o
  ·rw[w4<|(h _).1 k,wd k];rfl
  ·rw[w8<|fun x=>k<|(h _).2 x,wc k];rfl
theorem uK{l:Bq}(h:Ke l=0):isName l.1=true:=by
 cases k:isName l.1 with
 |true=>rfl
 |false=>
  have e:=cS l;rw[wd k]at e;unfold Ke at h;rw[e,wd af]at h;exact wh h af
theorem cT{seen:List Bf}{l:Bq}{r:List Bq}{o:List Bf}(h:∀x,x∈o↔x∈seen):MQ seen (l::r)=if Ke l≠0 then Ke l else if KL l.1 o≠0 then KL l.1 o else MQ (l.1::seen) r:=by
 rw[MQ];by_cases e:Ke l=0
 ·have a:¬Ke l≠0:=fun x=>x e
  rw[wc a,wc a,Xe<|uK e];unfold has;by_cases k:l.1∈o
  ·rw[w4<|(h _).1 k,wd k];rfl
  ·rw[w8<|fun x=>k<|(h _).2 x,wc k];rfl
 ·rw[wd e,wd e]
theorem Tm(n:Int)(r:List Int):Ew (n::r)=((decide (n<1)||decide (10000<n))||Ew r):=by unfold Ew;rw[yy]
theorem RH{α:Type}{l:List α}:((l.length:Int)==0)=true↔l=[]:=by
 rw[wk];constructor
 ·intro h;exact List.length_eq_zero_iff.1 ae
 ·intro h;rw[h];rfl
end Go.Sp
variable {Q:Go.Pe.PV->Go.Pe.Ob->Prop}
namespace Go.Pe
open Sp
open Go.Det
open Go.Sp (AF Bs Bq AW Ey Bf B7 q0 q1 n0 n1)
theorem nX[Srt]:Cv E1:=Aa T46.ok<|Aa T47.ok<|Aa T48.okM AB
theorem MV{α:Type}{X:AL}{Q:PV->Ob->Prop}{l:List α}{m:Nat}{e:Int}{s1 s2:Ob}{t:Tr}(a:∀ob,Q (.dat i64<|if l=[]then 12 else if m<l.length then 5 else e) ob)(b:l≠[]->l.length<=m->(∀ob,Q (.dat i64 e) ob)->Ends X t Q):
  Ends X (.ite ((l.length:Int)==0) (.leaf (.dat i64 12) s1)<|.ite (decide ((l.length:Int)>(m:Int))) (.leaf (.dat i64 5) s2) t) Q:=by
 refine zh (fun c=>zf ?_)<|fun c=>zh (fun d=>zf ?_)<|fun d=>?_
 ·rw[wd<|RH.1 c]at a;exact a _
 ·have c:l≠[]:=fun x=>by rw[RH.2 x]at c;cases c
  have d:=w6 d;rw[wc c,wd ae]at a;exact a _
 ·have c:l≠[]:=fun x=>by rw[RH.2 x]at c;cases c
  have d:=w7 d;rw[wc c,wc ae]at a;exact b c ae a
namespace T10
theorem AcI[Srt](S:List Bs)(j:List B7)(l:List Bq)(u:l.length<=8)(k:∀x∈l,Mk x=true):∀(r:List Bq) (i n:Nat) (o seen:List Bf),l.drop i=r->i<=l.length->n=o.length->n=i->(∀x,x∈o↔x∈seen)->(∀ob,Q (.dat i64<|MQ seen r) ob)->Ends E1 (L6 n (i:Int) o S j l) Q
 |[],i,n,o,seen,h,m,e,b,g,a=>by
  have:=drop_nil h m;exact zg (EW ..) (zj (w8 ae)<|zf<|a _)
 |p::r,i,n,o,seen,h,m,e,b,g,a=>by
  obtain⟨w,y,v⟩:=drop_cons (d:=(([],[],[],[],[]):Bq)) h;have s:=k p (zn<|by rw[h];exact zk ..);have z:=wn (i:=i) ae;have f:=nb (i:=i) (n:=l.length) ae;have tk:z8 n o=o:=by rw[e,zm]
  rw[cT g]at a;refine zg (EW ..) ?_;conv=>zeta
  rw[ze,y,z,tk];have pn:(decide (0+n<=o.length)&&true&&decide (o.length<=1000))=true:=Ab (Ab (w4 ae) rfl) (w4 ae);have q:(decide (1<=1)&&true&&decide (n=o.length)&&decide ((3*(n+1)+2000)*16<=562949953421312))=true:=Ab (Ab (Ab rfl rfl)<|w4 e) (w4 ae);refine zc (w4 ae)<|zc f<|zc s ?_;by_cases c:Ke p=0
  ·rw[wc<|fun x=>x c]at a;refine zc (q0 c)<|zc f<|zc pn<|zh (fun d=>zf ?_)<|fun d=>zc f<|zc q ?_
   ·rw[wd<|by simpa using d]at a;exact a _
   ·rw[wc<|by simpa using d]at a;exact AcI S j l u k r (i+1) (zq n 1) (o++[p.1]) (p.1::seen) v w (by rw[zp,e];rfl) (by rw[b]) (P7 g p.1) a
  ·rw[wd c]at a;exact zj (q1 c)<|zc (n1 c)<|zf<|a _
theorem W4[Srt](S:List Bs)(e:List B7)(l:List Bq)(h:l.length<=8)(f:∀x∈l,Mk x=true)(a:∀ob,Q (.dat i64<|MQ [] l) ob):Ends E1 (L4 0 S e l) Q:=by
 cases l with
 |nil=>exact zg (B1 ..)<|zj rfl (zf<|a _)
 |cons p r=>
  have s:=f p<|zk ..;have j:zd .i64 ((0:Int)+1)=((1:Nat):Int):=rfl;have i:(p::r).getD (zy 0) ([],[],[],[],[])=p:=rfl;have b:(decide ((0:Int)<=(0:Int))&&decide ((0:Int)<((p::r).length:Int)))=true:=Ab rfl (w4<|by rw[zi];omega);have k:∀x:Bf,x∈([]:List Bf)↔x∈([]:List Bf):=fun x=>Iff.rfl
  rw[cT k]at a;refine zg (B1 ..) ?_;conv=>zeta
  rw[i,j];have g:(decide (1<=1)&&decide (0<1)&&decide ((3*1+2000)*16<=562949953421312))=true:=Ab (Ab rfl rfl) (w4 ae);refine zc (w4<|by rw[zi];omega)<|zc b<|zc s ?_;by_cases c:Ke p=0
  ·rw[wc<|fun x=>x c]at a;refine zc (q0 c)<|zc b<|zc rfl (zh (fun d=>zf ?_)<|fun d=>zc b<|zc g ?_)
   ·rw[wd<|by simpa using d]at a;exact a _
   ·rw[wc<|by simpa using d]at a;exact AcI S e (p::r) h f r 1 1 [p.1] [p.1] rfl (by rw[zi];omega) rfl rfl (fun x=>Iff.rfl) a
  ·rw[wd c]at a;exact zj (q1 c)<|zc (n1 c)<|zf<|a _
theorem zD[Srt]{n:Nat}{i e j:Int}{t:B7}{o:List Bf}{S:List Bs}{d:List B7}{V:List Bq}(a:e≠0)(b:∀ob,Q (.dat i64 e) ob):Ends E1 (L7 n i e j t.1 t.2 o S d V) Q:=
 zg (DY ..) (zh (fun _=>zj (q1 a)<|zc (n1 a)<|zf<|b _)<|fun _=>zc (n1 a)<|zf<|b _)
theorem Aal[Srt]{i e j:Int}{t:B7}{S:List Bs}{d:List B7}{V:List Bq}(a:e≠0)(b:∀ob,Q (.dat i64 e) ob):Ends E1 (L3 i e j t.1 t.2 S d V) Q:=
 zg (Be ..) (zh (fun _=>zj (q1 a)<|zc (n1 a)<|zf<|b _)<|fun _=>zc (n1 a)<|zf<|b _)
theorem Ab9[Srt]{n:Nat}{i:Int}{t:B7}{o:List Bf}{S:List Bs}{f:List B7}{V:List Bq}(m:n=o.length)(y:n<=1000)(p:t.2.length<=4611686018427387904)(b:Ew t.2=true->∀ob,Q (.dat i64 3) ob)(e:Ew t.2=false->Ends E1 (L5 (zq n 1) (zd .i64<|i+1) (o++[t.1]) S f V) Q):∀(r:List Int) (j:Nat),t.2.drop j=r->j<=t.2.length->Ew t.2=Ew r->Ends E1 (L7 n i 0 (j:Int) t.1 t.2 o S f V) Q
 |[],j,h,k,a=>by
  have:=drop_nil h k;refine zg (DY ..) (zj (w8 ae)<|zj rfl (zc ?_<|e a));exact Ab (Ab (Ab rfl rfl)<|w4 m) (w4 ae)
 |x::r,j,h,k,a=>by
  obtain⟨u,q,v⟩:=drop_cons (d:=(0:Int)) h;have w:=wn (i:=j) ae;have g:=nb (i:=j) (n:=t.2.length) ae;rw[Tm]at a;refine zg (DY ..) ?_;conv=>zeta
  rw[ze,q,w];refine zc (w4 ae)<|zc rfl (zc g<|zh (fun c=>?_)<|fun c=>zc g<|zh (fun d=>?_)<|fun d=>?_)
  ·rw[c,yi,yi]at a;exact zD af<|b a
  ·have d:decide (10000<x)=true:=d;rw[d,y8,yi]at a;exact zD af<|b a
  ·have d:decide (10000<x)=false:=d;rw[c,d,yr,yr]at a;exact Ab9 m y p b e r (j+1) v u a
theorem Jy[Srt]{i:Int}{t:B7}{S:List Bs}{f:List B7}{V:List Bq}(m:t.2.length<=4611686018427387904)(b:Ew t.2=true->∀ob,Q (.dat i64 3) ob)(e:Ew t.2=false->Ends E1 (L5 1 (zd .i64<|i+1) [t.1] S f V) Q):∀(r:List Int) (j:Nat),t.2.drop j=r->j<=t.2.length->Ew t.2=Ew r->Ends E1 (L3 i 0 (j:Int) t.1 t.2 S f V) Q
 |[],j,h,k,a=>by
  have:=drop_nil h k;refine zg (Be ..) (zj (w8 ae)<|zj rfl (zc ?_<|e a));exact Ab (Ab rfl rfl) (w4 ae)
 |x::r,j,h,k,a=>by
  obtain⟨o,q,p⟩:=drop_cons (d:=(0:Int)) h;have u:=wn (i:=j) ae;have g:=nb (i:=j) (n:=t.2.length) ae;rw[Tm]at a;refine zg (Be ..) ?_;conv=>zeta
  rw[ze,q,u];refine zc (w4 ae)<|zc rfl (zc g<|zh (fun c=>?_)<|fun c=>zc g<|zh (fun d=>?_)<|fun d=>?_)
  ·rw[c,yi,yi]at a;exact Aal af<|b a
  ·have d:decide (10000<x)=true:=d;rw[d,y8,yi]at a;exact Aal af<|b a
  ·have d:decide (10000<x)=false:=d;rw[c,d,yr,yr]at a;exact Jy m b e r (j+1) p o a
theorem AcW[Srt](c:AF)(j:aV c=true)(w:c.2.1.length<=8):∀(r:List B7) (i n:Nat) (o seen:List Bf),c.2.1.drop i=r->i<=c.2.1.length->n=o.length->n=i->(∀x,x∈o↔x∈seen)->(∀ob,Q (.dat i64<|if F9 (c.1.length:Int) seen r≠0 then F9 (c.1.length:Int) seen r else OE c) ob)->Ends E1 (L5 n (i:Int) o c.1 c.2.1 c.2.2) Q
 |[],i,n,o,seen,h,q,e,b,p,a=>by
  have:=drop_nil h q;have a:∀ob,Q (.dat i64<|OE c) ob:=fun ob=>by
   have:=a ob;rwa [show F9 (c.1.length:Int) seen []=0 from rfl,wc<|fun x=>x rfl]at this
  refine zg (D0 ..) (zj (w8 ae)<|MV (m:=8) a fun _ A g=>?_);exact W4 _ _ _ A (RF j).2.2.2.2.2 g
 |t::r,i,n,o,seen,h,q,e,b,p,a=>by
  obtain⟨y,B,v⟩:=drop_cons (d:=(([],[]):B7)) h;have st:=(RF j).2.2.2.2.1 t (zn<|by rw[h];exact zk ..);have st:decide (t.2.length<=4611686018427387904)=true:=st;rw[w5]at st;have C:=wn (i:=i) ae;have z:=nb (i:=i) (n:=c.2.1.length) ae;have tk:z8 n o=o:=by rw[e,zm]
  have pn:(decide (0+n<=o.length)&&true&&decide (o.length<=1000))=true:=Ab (Ab (w4 ae) rfl) (w4 ae);rw[cG p]at a;refine zg (D0 ..) ?_;conv=>zeta
  rw[ze,B,tk];refine zc (w4 ae)<|zc z<|zc pn ?_;by_cases k:KL t.1 o=0
  ·have u:¬KL t.1 o≠0:=fun x=>x k
   rw[wc u]at a;refine zc (q0 k)<|zh (fun d=>?_)<|fun d=>?_
   ·have d:(t.2.length:Int)≠(c.1.length:Int):=by simpa using d
    rw[wd d,wd af]at a;exact zD af a
   ·have d:¬(t.2.length:Int)≠(c.1.length:Int):=by simpa using d
    rw[wc d]at a;rw[k];refine Ab9 e ae st (fun f=>?_) (fun f=>?_) t.2 0 rfl (zt _) rfl
    ·rw[wd f,wd af]at a;exact a
    ·rw[wc (c:=Ew t.2=true)<|by rw[f];decide]at a;rw[C];exact AcW c j w r (i+1) (zq n 1) (o++[t.1]) (t.1::seen) v y (by rw[zp,e];rfl) (by rw[b]) (P7 p t.1) a
  ·rw[wd k,wd k]at a;exact zj (q1 k)<|zD k a
theorem Dk[Srt](c:AF)(e:aV c=true)(i:c.2.1.length<=8)(a:∀ob,Q (.dat i64<|if F9 (c.1.length:Int) [] c.2.1≠0 then F9 (c.1.length:Int) [] c.2.1 else OE c) ob):Ends E1 (L2 0 c.1 c.2.1 c.2.2) Q:=by
 obtain⟨S,tt,V⟩:=c;cases tt with
 |nil=>
  have a:∀ob,Q (.dat i64<|OE (S,[],V)) ob:=a;refine zg (Az ..)<|zj rfl (MV (m:=8) a fun _ n b=>?_);exact W4 _ _ _ n (RF e).2.2.2.2.2 b
 |cons t r=>
  have st:=(RF e).2.2.2.2.1 t<|zk ..;have st:decide (t.2.length<=4611686018427387904)=true:=st;rw[w5]at st;have p:zd .i64 ((0:Int)+1)=((1:Nat):Int):=rfl;have o:(t::r).getD (zy 0) ([],[])=t:=rfl;have j:(decide ((0:Int)<=(0:Int))&&decide ((0:Int)<((t::r).length:Int)))=true:=Ab rfl (w4<|by rw[zi];omega);have h:∀x:Bf,x∈([]:List Bf)↔x∈([]:List Bf):=fun x=>Iff.rfl
  have a:∀ob,Q (.dat i64<|if F9 (S.length:Int) [] (t::r)≠0 then F9 (S.length:Int) [] (t::r)else OE (S,t::r,V)) ob:=a;rw[cG h]at a;show Ends E1 (L2 0 S (t::r) V) Q;refine zg (Az ..) ?_;conv=>zeta
  rw[o];refine zc (w4<|by rw[zi];omega)<|zc j<|zc rfl ?_;by_cases k:KL t.1 []=0
  ·have g:¬KL t.1 []≠0:=fun x=>x k
   rw[wc g]at a;refine zc (q0 k)<|zh (fun d=>?_)<|fun d=>?_
   ·have d:(t.2.length:Int)≠(S.length:Int):=by simpa using d
    rw[wd d,wd af]at a;exact Aal af a
   ·have d:¬(t.2.length:Int)≠(S.length:Int):=by simpa using d
    rw[wc d]at a;rw[k];refine Jy st (fun f=>?_) (fun f=>?_) t.2 0 rfl (zt _) rfl
    ·rw[wd f,wd af]at a;exact a
    ·rw[wc (c:=Ew t.2=true)<|by rw[f];decide]at a;rw[p];exact AcW (S,t::r,V) e i r 1 1 [t.1] [t.1] rfl (by rw[zi];omega) rfl rfl (fun x=>Iff.rfl) a
  ·rw[wd k,wd k]at a;exact zj (q1 k)<|Aal k a
theorem Dx[Srt](c:AF)(e:aV c=true):∀(r:List Bs) (i:Nat),c.1.drop i=r->i<=c.1.length->
  (∀ob,Q (.dat i64<|if Jn r≠0 then Jn r else US c) ob)->Ends E1 (L1 (i:Int) c.1 c.2.1 c.2.2) Q
 |[],i,h,f,a=>by
  have:=drop_nil h f;have a:∀ob,Q (.dat i64<|US c) ob:=fun ob=>by
   have:=a ob;rwa [show Jn []=0 from rfl,wc<|fun x=>x rfl]at this
  refine zg (Ak ..) (zj (w8 ae)<|MV (m:=8) a fun _ n b=>?_);exact Dk c e n b
 |p::r,i,h,f,a=>by
  obtain⟨k,o,g⟩:=drop_cons (d:=(([],[],[],[],[]):Bs)) h;have s:=RF e;have sp:=s.2.2.2.1 p (zn (by rw[h];exact zk ..));have u:=s.1;have q:=wn (i:=i) ae;rw[Th]at a;refine zg (Ak ..) ?_;conv=>zeta
  rw[ze,o,q];refine zc (w4 ae) (zc (ad ae ae)<|zc sp<|zh (fun d=>zf ?_)<|fun d=>?_)
  ·have d:(LC p !=0)=true:=d;have d:LC p≠0:=by simpa using d
   rw[wd d,wd d]at a;exact a _
  ·have d:(LC p !=0)=false:=d;have j:¬LC p≠0:=by simpa using d
   rw[wc j]at a;exact Dx c e r (i+1) g k a
theorem okM[Srt]:Af AY 10 AdO:=by
 refine BA nX<|fun(c:AF) a=>?_;have a:aV c=true:=a;have d:∀ob,Ac AdO c (.dat i64<|N6 c) ob:=fun ob=>ya rfl rfl rfl
 refine zx (Aj c)<|MV (m:=36) d fun _ _ b=>?_;exact Dx c a c.1 0 rfl (zt _) b
theorem ok[Srt]:Af AY 10 cCo:=jD okM fun _ h=>Afa h
end T10
end Go.Pe
namespace Go.Sp
theorem Ti(p:AW)(l:List AW)(n m:Nat):HB (p::l) n m=((decide (p.1.length<=n)&&decide (p.2.length<=m))&&HB l n m):=by unfold HB;rw[yc]
end Go.Sp
namespace Go.Pe
open Sp
open Go.Det
open Go.Sp (AF Bs Bq AW Ey Bf B7 q0 q1 n0 n1)
theorem Ww[Srt]:Cv GK:=fun g sp h=>by cases h
namespace T45
theorem Dk[Srt](e b nx:Bf)(t w:List AW)(j:w.length<=20):∀(r:List AW) (i:Nat),w.drop i=r->i<=w.length->(∀ob,Q (.bl<|HB r 40 20) ob)->Ends GK (L2 (i:Int) e b nx t w) Q
 |[],i,h,g,a=>by
  have:=drop_nil h g;exact zg (Az ..) (zj (w8 ae)<|zf<|a _)
 |p::r,i,h,g,a=>by
  obtain⟨k,o,m⟩:=drop_cons (d:=(([],[]):AW)) h;have q:=wn (i:=i) ae;have f:=nb (i:=i) (n:=w.length) ae;rw[Ti]at a;refine zg (Az ..) ?_;conv=>zeta
  rw[ze,o,q];refine zc (w4 ae)<|zc f<|zh (fun c=>zf ?_)<|fun c=>zc f<|zh (fun d=>zf ?_)<|fun d=>Dk e b nx t w j r (i+1) m k ?_
  ·have c:=w6 c;rw[w8 ae,z6,z6]at a;exact a _
  ·have d:=w6 d;rw[w8 (p:=p.2.length<=20) ae,yp,z6]at a;exact a _
  ·have c:=w7 c;have d:=w7 d;rw[w4 (p:=p.1.length<=40) ae,w4 (p:=p.2.length<=20) ae,yt,yh]at a;exact a
theorem Dx[Srt](e b nx:Bf)(t w:List AW)(k:t.length<=70)(f:w.length<=20):∀(r:List AW) (i:Nat),t.drop i=r->i<=t.length->(∀ob,Q (.bl<|HB r 20 20&&HB w 40 20) ob)->Ends GK (L1 (i:Int) e b nx t w) Q
 |[],i,h,j,a=>by
  have:=drop_nil h j;have a:∀ob,Q (.bl<|HB w 40 20) ob:=a;exact zg (Ak ..) (zj (w8 ae)<|Dk e b nx t w f w 0 rfl (zt _) a)
 |p::r,i,h,j,a=>by
  obtain⟨m,q,o⟩:=drop_cons (d:=(([],[]):AW)) h;have u:=wn (i:=i) ae;have g:=nb (i:=i) (n:=t.length) ae;rw[Ti]at a;refine zg (Ak ..) ?_;conv=>zeta
  rw[ze,q,u];refine zc (w4 ae)<|zc g<|zh (fun c=>zf ?_)<|fun c=>zc g<|zh (fun d=>zf ?_)<|fun d=>Dx e b nx t w k f r (i+1) o m ?_
  ·have c:=w6 c;rw[w8 (p:=p.1.length<=20) ae,z6,z6,z6]at a;exact a _
  ·have d:=w6 d;rw[w8 (p:=p.2.length<=20) ae,yp,z6,z6]at a;exact a _
  ·have c:=w7 c;have d:=w7 d;rw[w4 (p:=p.1.length<=20) ae,w4 (p:=p.2.length<=20) ae,yt,yh]at a;exact a
theorem ok[Srt]:Af AY 45 cW:=by
 refine BA Ww<|fun(l:Bq) _=>?_;have f:∀b ob,b=yo l->Ac cW l (.bl b) ob:=fun b ob x=>ya rfl rfl x
 have no:∀ob,yo l=false->Ac cW l (.bl false) ob:=fun ob h=>f _ ob h.symm
 refine zx (Aj l)<|zh (fun a=>zf<|no _ ?_)<|fun a=>zh (fun b=>zf<|no _ ?_)<|fun b=>zh (fun c=>zf<|no _ ?_)<|fun c=>zh (fun d=>zf<|no _ ?_)<|fun d=>zh (fun e=>zf<|no _ ?_)<|fun e=>?_;all_goals simp only[w5,w9]at*
 ·unfold yo;rw[w8 ae];rfl
 ·unfold yo;rw[w8 (p:=l.2.1.length<=20) ae];simp
 ·unfold yo;rw[w8 (p:=l.2.2.1.length<=20) ae];simp
 ·unfold yo;rw[w8 (p:=l.2.2.2.1.length<=70) ae];simp
 ·unfold yo;rw[w8 (p:=l.2.2.2.2.length<=20) ae];simp
 ·refine Dx _ _ _ _ _ ae ae _ 0 rfl (zt _) (fun ob=>f _ ob ?_);unfold yo;rw[w4 (p:=l.1.length<=40) ae,w4 (p:=l.2.1.length<=20) ae,w4 (p:=l.2.2.1.length<=20) ae,w4 (p:=l.2.2.2.1.length<=70) ae,w4 (p:=l.2.2.2.2.length<=20) ae];rfl
end T45
theorem rZ[Srt]:Cv R9:=Aa T45.ok AB
namespace T9
theorem Jy[Srt](S:List Bs)(b:List B7)(V:List Bq)(g:V.length<=10):∀(r:List Bq) (i:Nat),V.drop i=r->i<=V.length->(∀ob,Q (.bl<|r.all yo) ob)->Ends R9 (L3 (i:Int) S b V) Q
 |[],i,h,e,a=>by
  have:=drop_nil h e;exact zg (Be ..) (zj (w8 ae)<|zf<|a _)
 |p::r,i,h,e,a=>by
  obtain⟨f,m,j⟩:=drop_cons (d:=(([],[],[],[],[]):Bq)) h;have o:=wn (i:=i) ae;have k:=nb (i:=i) (n:=V.length) ae;rw[yc]at a;refine zg (Be ..) ?_;conv=>zeta
  rw[ze,m,o];refine zc (w4 ae)<|zc k<|zc rfl (zh (fun c=>zf ?_)<|fun c=>Jy S b V g r (i+1) j f ?_)
  ·have c:(!yo p)=true:=c;have c:yo p=false:=by simpa using c
   rw[c]at a;exact a _
  ·have c:(!yo p)=false:=c;have c:yo p=true:=by simpa using c
   rw[c]at a;exact a
theorem Dk[Srt](S:List Bs)(b:List B7)(V:List Bq)(o:b.length<=10)(e:V.length<=10):∀(r:List B7) (i:Nat),b.drop i=r->i<=b.length->(∀ob,Q (.bl<|r.all Sp.CY&&V.all yo) ob)->Ends R9 (L2 (i:Int) S b V) Q
 |[],i,h,g,a=>by
  have:=drop_nil h g;have a:∀ob,Q (.bl<|V.all yo) ob:=a;exact zg (Az ..) (zj (w8 ae)<|Jy S b V e V 0 rfl (zt _) a)
 |p::r,i,h,g,a=>by
  obtain⟨k,j,m⟩:=drop_cons (d:=(([],[]):B7)) h;have n:=wn (i:=i) ae;have f:(decide ((0:Int)<=(i:Int))&&decide ((i:Int)<(b.length:Int)))=true:=ad ae ae;rw[yc]at a;refine zg (Az ..) ?_;conv=>zeta
  rw[ze,j,n];have sh:Sp.CY p=(decide (p.1.length<=40)&&decide (p.2.length<=40)):=rfl;refine zc (w4 ae)<|zc f<|zh (fun c=>zf ?_)<|fun c=>zc f<|zh (fun d=>zf ?_)<|fun d=>Dk S b V o e r (i+1) m k ?_
  ·have c:=w6 c;rw[sh,w8 (p:=p.1.length<=40) ae]at a;exact a _
  ·have d:=w6 d;rw[sh,w8 (p:=p.2.length<=40) ae,yp]at a;exact a _
  ·have c:=w7 c;have d:=w7 d;rw[sh,w4 (p:=p.1.length<=40) ae,w4 (p:=p.2.length<=40) ae]at a;exact a
theorem Dx[Srt](S:List Bs)(g:List B7)(V:List Bq)(u:S.length<=38)(m:g.length<=10)(j:V.length<=10):∀(r:List Bs) (i:Nat),S.drop i=r->i<=S.length->(∀ob,Q (.bl<|r.all yz&&(g.all Sp.CY&&V.all yo)) ob)->Ends R9 (L1 (i:Int) S g V) Q
 |[],i,h,k,f=>by
  have:=drop_nil h k;have f:∀ob,Q (.bl<|g.all Sp.CY&&V.all yo) ob:=f;exact zg (Ak ..) (zj (w8 ae)<|Dk S g V m j g 0 rfl (zt _) f)
 |p::r,i,h,k,f=>by
  obtain⟨v,o,q⟩:=drop_cons (d:=(([],[],[],[],[]):Bs)) h;have x:=wn (i:=i) ae;have w:=nb (i:=i) (n:=S.length) ae;rw[yc]at f;refine zg (Ak ..) ?_;conv=>zeta
  rw[ze,o,x];have no:yz p=false->∀ob,Q (.bl false) ob:=fun h=>by rw[h]at f;exact f
  refine zc (w4 ae)<|zc w<|zh (fun a=>zf<|no ?_ _)<|fun a=>zh (fun b=>zf<|no ?_ _)<|fun b=>zh (fun c=>zf<|no ?_ _)<|fun c=>zh (fun d=>zf<|no ?_ _)<|fun d=>zh (fun e=>zf<|no ?_ _)<|fun e=>Dx S g V u m j r (i+1) q v ?_
  ·have a:=w6 a;unfold yz;rw[w8 (p:=p.1.length<=20) ae];rfl
  ·have b:=w6 b;unfold yz;rw[w8 (p:=p.2.1.length<=20) ae];simp
  ·have c:=w6 c;unfold yz;rw[w8 (p:=p.2.2.1.length<=20) ae];simp
  ·have d:=w6 d;unfold yz;rw[w8 (p:=p.2.2.2.1.length<=20) ae];simp
  ·have e:=w6 e;unfold yz;rw[w8 (p:=p.2.2.2.2.length<=20) ae];simp
  ·have a:=w7 a;have b:=w7 b;have c:=w7 c;have d:=w7 d;have e:=w7 e;have y:yz p=true:=by
    unfold yz;rw[w4 (p:=p.1.length<=20) ae,w4 (p:=p.2.1.length<=20) ae,w4 (p:=p.2.2.1.length<=20) ae,w4 (p:=p.2.2.2.1.length<=20) ae,w4 (p:=p.2.2.2.2.length<=20) ae];rfl
   rw[y]at f;exact f
theorem ok[Srt]:Af AY 9 AbA:=by
 refine BA rZ<|fun(c:AF) _=>?_;have e:∀b ob,b=Ki c->Ac AbA c (.bl b) ob:=fun b ob x=>ya rfl rfl x
 have no:∀ob,Ki c=false->Ac AbA c (.bl false) ob:=fun ob h=>e _ ob h.symm
 refine zx (Aj c)<|zh (fun a=>zf<|no _ ?_)<|fun a=>zh (fun b=>zf<|no _ ?_)<|fun b=>zh (fun d=>zf<|no _ ?_)<|fun d=>?_
 ·have a:=w6 a;unfold Ki;rw[w8 (p:=c.1.length<=38) ae];rfl
 ·have b:=w6 b;unfold Ki;rw[w8 (p:=c.2.1.length<=10) ae];simp
 ·have d:=w6 d;unfold Ki;rw[w8 (p:=c.2.2.length<=10) ae];simp
 ·have a:=w7 a;have b:=w7 b;have d:=w7 d;refine Dx _ _ _ ae ae ae _ 0 rfl (zt _) (fun ob=>e _ ob ?_);unfold Ki;rw[w4 (p:=c.1.length<=38) ae,w4 (p:=c.2.1.length<=10) ae,w4 (p:=c.2.2.length<=10) ae,yt,yt,yh,Bool.and_assoc];rfl
end T9
end Go.Pe
namespace Go.Sp
theorem pY(p:AW)(l:List AW)(d:Int):fwP (p::l) d=((Cm p.1 d&&Cm p.2 d)&&fwP l d):=by unfold fwP;rw[yc]
theorem kI(p:AW)(l:List AW)(d:Int):zG (p::l) d=(Cm p.2 d&&zG l d):=by unfold zG;rw[yc]
theorem EJ{s:Bf}{d:Int}(h:Cm s d=true)(a:d<=9):s.length<=20:=by
 unfold Cm at h;simp only[zl,w5]at h;omega
theorem PY{n d:Int}(h:jR n d=true):0<=n/\n<=8/\0<=d/\d<=9:=by
 unfold jR at h;simp only[zl,w5]at h;omega
theorem yB{s:Bs}{n d:Int}(h:IZ s n d=true)(i:jR n d=true):Bw s=true:=by
 obtain⟨_,j,_,g⟩:=PY i;unfold IZ at h;simp only[zl,w5]at h;have a:=EJ h.1.1.1.2 g;have b:=EJ h.1.1.2 g;have c:=EJ h.1.2 g;have e:=EJ h.2 g;have f:=h.1.1.1.1;unfold Bw;rw[w4 a,w4 b,w4 c,w4 e,w4 ae];rfl
theorem xG{l:Bq}{n d:Int}(h:EU l n d=true)(j:jR n d=true):Mk l=true:=by
 obtain⟨_,k,_,g⟩:=PY j;unfold EU at h;simp only[zl,w5]at h;obtain⟨⟨⟨⟨⟨_,a⟩,_⟩,b⟩,c⟩,e,f⟩:=h;have s:HB l.2.2.2.1 20 20=true:=by
  unfold HB;unfold fwP at e;rw[zz]at e ⊢;intro x i;have y:=e x i;rw[zl]at y;rw[w4<|EJ y.1 g,w4<|EJ y.2 g];rfl
 have w:(l.2.2.2.2.all fun p=>decide (p.2.length<=20))=true:=by
  unfold zG at f;rw[zz]at f ⊢;exact fun x i=>w4<|EJ (f x i) g
 unfold Mk;rw[w4<|EJ b g,w4<|EJ c g,w4 (p:=l.2.2.2.1.length<=70) ae,s,w];rfl
end Go.Sp
namespace Go.Pe
open Sp
open Go.Det
open Go.Sp (AF Bs Bq AW Ey Bf B7)
theorem sG[Srt]:Cv YG:=Aa T49.ok AB
namespace T50
theorem Dk[Srt](d:Int)(b:0<=d/\d<=9)(e f nx:Bf)(t w:List AW)(j:w.length<=8):∀(r:List AW) (i:Nat),w.drop i=r->i<=w.length->(∀ob,Q (.bl<|zG r d) ob)->Ends YG (L2 d (i:Int) e f nx t w) Q
 |[],i,h,g,a=>by
  have:=drop_nil h g;exact zg (Az ..) (zj (w8 ae)<|zf<|a _)
 |p::r,i,h,g,a=>by
  obtain⟨k,u,o⟩:=drop_cons (d:=(([],[]):AW)) h;have v:=wn (i:=i) ae;have q:=nb (i:=i) (n:=w.length) ae;have m:(decide (0<=d)&&decide (d<=1000))=true:=Ab (w4 b.1) (w4 ae);rw[kI]at a;refine zg (Az ..) ?_;conv=>zeta
  rw[ze,u,v];refine zc (w4 ae)<|zc q<|zc m<|zh (fun c=>zf ?_)<|fun c=>Dk d b e f nx t w j r (i+1) o k ?_
  ·have c:Cm p.2 d=false:=by simpa using c
   rw[c]at a;exact a _
  ·have c:Cm p.2 d=true:=by simpa using c
   rw[c]at a;exact a
theorem Dx[Srt](d:Int)(b:0<=d/\d<=9)(g f nx:Bf)(t w:List AW)(q:t.length<=8)(j:w.length<=8):∀(r:List AW) (i:Nat),t.drop i=r->i<=t.length->(∀ob,Q (.bl<|Sp.fwP r d&&zG w d) ob)->Ends YG (L1 d (i:Int) g f nx t w) Q
 |[],i,h,o,a=>by
  have:=drop_nil h o;have a:∀ob,Q (.bl<|zG w d) ob:=a;exact zg (Ak ..) (zj (w8 ae)<|Dk d b g f nx t w j w 0 rfl (zt _) a)
 |p::r,i,h,o,a=>by
  obtain⟨v,x,u⟩:=drop_cons (d:=(([],[]):AW)) h;have y:=wn (i:=i) ae;have m:=nb (i:=i) (n:=t.length) ae;have k:(decide (0<=d)&&decide (d<=1000))=true:=Ab (w4 b.1) (w4 ae);rw[pY]at a;refine zg (Ak ..) ?_;conv=>zeta
  rw[ze,x,y];refine zc (w4 ae)<|zc m<|zc k<|zh (fun c=>zf ?_)<|fun c=>zc m<|zc k<|zh (fun e=>zf ?_)<|fun e=>Dx d b g f nx t w q j r (i+1) u v ?_
  ·have c:Cm p.1 d=false:=by simpa using c
   rw[c]at a;exact a _
  ·have e:Cm p.2 d=false:=by simpa using e
   rw[e,yp]at a;exact a _
  ·have c:Cm p.1 d=true:=by simpa using c
   have e:Cm p.2 d=true:=by simpa using e
   rw[c,e]at a;exact a
theorem ok[Srt]:Af AY 50 ZS:=by
 refine BA sG<|fun(i:Bq×Int×Int) g=>?_;obtain⟨l,n,d⟩:=i;have g:jR n d=true:=g;obtain⟨n0,n8,d0,d9⟩:=PY g;have j:∀b ob,b=EU l n d->Ac ZS (l,n,d) (.bl b) ob:=fun b ob x=>ya rfl rfl x
 have no:∀ob,EU l n d=false->Ac ZS (l,n,d) (.bl false) ob:=fun ob h=>j _ ob h.symm
 have k:(decide (0<=d)&&decide (d<=1000))=true:=Ab (w4 d0) (w4 ae);refine zx (Aj l n d)<|zh (fun a=>zf<|no _ ?_)<|fun a=>zh (fun b=>zf<|no _ ?_)<|fun b=>zh (fun c=>zf<|no _ ?_)<|fun c=>zc k<|zh (fun e=>zf<|no _ ?_)<|fun e=>zc k<|zh (fun f=>zf<|no _ ?_)<|fun f=>?_
 ·have a:=w6 a;unfold EU;rw[w8 (p:=l.1.length<=30) ae];rfl
 ·have b:=w6 b;unfold EU;rw[w8 (p:=(l.2.2.2.1.length:Int)<=n) ae];simp
 ·have c:=w6 c;unfold EU;rw[w8 (p:=(l.2.2.2.2.length:Int)<=n) ae];simp
 ·have e:Cm l.2.1 d=false:=by simpa using e
  unfold EU;rw[e];simp
 ·have f:Cm l.2.2.1 d=false:=by simpa using f
  unfold EU;rw[f];simp
 ·have a:=w7 a;have b:=w7 b;have c:=w7 c;have e:Cm l.2.1 d=true:=by simpa using e
  have f:Cm l.2.2.1 d=true:=by simpa using f
  refine Dx d ⟨d0,d9⟩ _ _ _ _ _ ae ae _ 0 rfl (zt _) (fun ob=>j _ ob ?_);unfold EU;rw[w4 (p:=l.1.length<=30) ae,w4 (p:=(l.2.2.2.1.length:Int)<=n) ae,w4 (p:=(l.2.2.2.2.length:Int)<=n) ae,e,f];rfl
end T50
theorem rL[Srt]:Cv ZF:=Aa T49.ok<|Aa T50.ok<|Aa T10.okM AB
namespace T11
theorem Dk[Srt](S:List Bs)(e:List B7)(V:List Bq)(n d:Int)(j:jR n d=true)(o:(∀x∈V,EU x n d=true)->aV (S,e,V)=true)(z:V.length<=8):∀(r:List Bq) (i:Nat),V.drop i=r->i<=V.length->(∀x∈V,x∈r\/EU x n d=true)->(∀v b ob,v=.bl b\/v=.dat .bool b->b=(r.all (fun l=>EU l n d)&&decide (N6 (S,e,V)=0))->Q v ob)->Ends ZF (L2 n d (i:Int) S e V) Q
 |[],i,h,q,f,a=>by
  have:=drop_nil h q;have m:=o (fun x g=>(f x g).resolve_left<|by simp);exact zg (Az ..) (zj (w8 ae)<|zc m<|zf<|a _ _ _ (.inr rfl) rfl)
 |p::r,i,h,q,f,a=>by
  obtain⟨w,u,A⟩:=drop_cons (d:=(([],[],[],[],[]):Bq)) h;have D:=wn (i:=i) ae;have C:=nb (i:=i) (n:=V.length) ae;rw[yc]at a;refine zg (Az ..) ?_;conv=>zeta
  rw[ze,u,D];refine zc (w4 ae)<|zc C<|zc j<|zh (fun c=>zf<|a _ _ _ (.inl rfl) ?_)<|fun c=>Dk S e V n d j o z r (i+1) A w ?_ ?_
  ·have c:(!EU p n d)=true:=c;have c:EU p n d=false:=by simpa using c
   rw[c];rfl
  ·have c:(!EU p n d)=false:=c;have c:EU p n d=true:=by simpa using c
   intro x g;rcases f x g with k|k
   ·rcases y7.1 k with k|k
    ·exact .inr<|k▸c
    ·exact .inl k
   ·exact .inr k
  ·have c:(!EU p n d)=false:=c;have c:EU p n d=true:=by simpa using c
   intro v b ob B y;refine a v b ob B ?_;rw[c,yh];exact y
theorem Dx[Srt](S:List Bs)(g:List B7)(V:List Bq)(n d:Int)(u:jR n d=true)(C:(∀x∈S,IZ x n d=true)->(∀x∈V,EU x n d=true)->aV (S,g,V)=true)(F:S.length<=8)(B:V.length<=8):∀(r:List Bs) (i:Nat),S.drop i=r->i<=S.length->(∀x∈S,x∈r\/IZ x n d=true)->(∀v b ob,v=.bl b\/v=.dat .bool b->b=(r.all (fun s=>IZ s n d)&&(V.all (fun l=>EU l n d)&&decide (N6 (S,g,V)=0)))->Q v ob)->Ends ZF (L1 n d (i:Int) S g V) Q
 |[],i,h,D,A,j=>by
  have:=drop_nil h D;have m:=C (fun x o=>(A x o).resolve_left (by simp));exact zg (Ak ..) (zj (w8 ae) (Dk S g V n d u m B V 0 rfl (zt _) (fun x o=>.inl o) (fun v b ob z w=>j v b ob z<|by rw[List.all_nil,yh];exact w)))
 |p::r,i,h,D,A,j=>by
  obtain⟨G,I,E⟩:=drop_cons (d:=(([],[],[],[],[]):Bs)) h;obtain⟨n0,n8,d0,d9⟩:=PY u;have J:=wn (i:=i) ae;have H:=nb (i:=i) (n:=S.length) ae;have q:(decide (0<=d)&&decide (d<=1000))=true:=Ab (w4 d0) (w4 ae);rw[yc]at j;have no:IZ p n d=false->∀ob,Q (.bl false) ob:=fun h ob=>j _ _ ob (.inl rfl) (by rw[h];rfl)
  refine zg (Ak ..) ?_;conv=>zeta
  rw[ze,I,J];refine zc (w4 ae) (zc H<|zh (fun a=>zf<|no ?_ _)<|fun a=>zc q<|zh (fun b=>zf<|no ?_ _)<|fun b=>zc q<|zh (fun c=>zf<|no ?_ _)<|fun c=>zc q<|zh (fun e=>zf<|no ?_ _)<|fun e=>zc q<|zh (fun f=>zf<|no ?_ _)<|fun f=>?_) 
  ·have a:=w6 a;unfold IZ;rw[w8 (p:=(p.2.2.2.2.length:Int)<=n) ae];rfl
  ·have b:Cm p.1 d=false:=by simpa using b
   unfold IZ;rw[b];simp
  ·have c:Cm p.2.1 d=false:=by simpa using c
   unfold IZ;rw[c];simp
  ·have e:Cm p.2.2.1 d=false:=by simpa using e
   unfold IZ;rw[e];simp
  ·have f:Cm p.2.2.2.1 d=false:=by simpa using f
   unfold IZ;rw[f];simp
  ·have a:=w7 a;have y:IZ p n d=true:=by
    have b:Cm p.1 d=true:=by simpa using b
    have c:Cm p.2.1 d=true:=by simpa using c
    have e:Cm p.2.2.1 d=true:=by simpa using e
    have f:Cm p.2.2.2.1 d=true:=by simpa using f
    unfold IZ;rw[w4 (p:=(p.2.2.2.2.length:Int)<=n) ae,b,c,e,f];rfl
   refine Dx S g V n d u C F B r (i+1) E G ?_ ?_
   ·intro x o;rcases A x o with k|k
    ·rcases y7.1 k with k|k
     ·exact .inr<|k▸y
     ·exact .inl k
    ·exact .inr k
   ·intro v b ob z w;refine j v b ob z ?_;rw[y,yh];exact w
theorem ok[Srt]:Af AY 11 AaI:=by
 refine BA rL<|fun(i:AF×Int×Int) j=>?_;obtain⟨c,n,d⟩:=i;have j:(jR n d&&c.2.1.all Ve)=true:=j;rw[zl]at j;obtain⟨hN,hT⟩:=j;obtain⟨n0,n8,d0,d9⟩:=PY hN;have k:∀v b ob,v=.bl b\/v=.dat .bool b->b=XQ c n d->Ac AaI (c,n,d) v ob:=by
  rintro v b ob (rfl|rfl) g
  ·exact ya rfl rfl g
  ·exact ya rfl rfl g
 have no:∀ob,XQ c n d=false->Ac AaI (c,n,d) (.bl false) ob:=fun ob h=>k _ _ ob (.inl rfl) h.symm
 refine zx (Aj c n d)<|zh (fun a=>zf<|no _ ?_)<|fun a=>zh (fun b=>zf<|no _ ?_)<|fun b=>zh (fun e=>zf<|no _ ?_)<|fun e=>?_
 ·have a:=w6 a;unfold XQ;rw[w8 (p:=(c.1.length:Int)<=n) ae];rfl
 ·have b:=w6 b;unfold XQ;rw[w8 (p:=(c.2.1.length:Int)<=n) ae];simp
 ·have e:=w6 e;unfold XQ;rw[w8 (p:=(c.2.2.length:Int)<=n) ae];simp
 ·have a:=w7 a;have b:=w7 b;have e:=w7 e;have o:(∀x∈c.1,IZ x n d=true)->(∀x∈c.2.2,EU x n d=true)->aV (c.1,c.2.1,c.2.2)=true:=fun u v=>by
   have u:c.1.all yz=true:=zz.2 fun x f=>yB (u x f) hN
   have v:c.2.2.all Mk=true:=zz.2 fun x f=>xG (v x f) hN
   unfold aV;rw[w4 (p:=c.1.length<=38) ae,w4 (p:=c.2.1.length<=10) ae,w4 (p:=c.2.2.length<=10) ae,u,v,hT];rfl
  refine Dx _ _ _ n d hN o ae ae _ 0 rfl (zt _) (fun x f=>.inl f) (fun v b ob m g=>k v b ob m ?_);rw[g];unfold XQ;rw[w4 (p:=(c.1.length:Int)<=n) ae,w4 (p:=(c.2.1.length:Int)<=n) ae,w4 (p:=(c.2.2.length:Int)<=n) ae];rfl
end T11
section
open List Int Prod
namespace T77
def T[Srt](s:Rd):Tr:=tree AbH false 9 77<|Ag ([zu]) s
def L1[Srt](v5 b:Int)(d:Bool)(a:List Int):Tr:=re ((T []).L.R.R.L)<|Ax 62 [(4,.ptr 0 0),(5,.dat i64 v5),(6,.dat i64 b)] [(0,.box [.dat Sh.bool d,.dat (yd i64) a])] 1
theorem Aj[Srt](s:Rd):T s=let a:Tr:=.leaf (.tup [.dat i64 (0:Int),.bl false]) [];.cd (length s<=1000000) (.ite (!Lj s) a<|.di ((length s:Int)>20) a<|.ck (D1 s)<|L1 0 (zd .i64<|(↑(length<|Ek s):Int)-1) (Gy s)<|Ek s):=by kernel_rfl
theorem Ak[Srt](v5 b:Int)(e:Bool)(a:List Int):stepT AbH (L1 v5 b e a)=let d:Tr:=.leaf (.tup [.dat i64 (0:Int),.bl false]) [];let f:=0-getD a (toNat b) 0;let j:=decide (v5<(-9223372036));let h':=zd .i64<|b-1;let h:=decide (v5>9223372036);let g:=L1 (zd .i64<|zd .i64 (v5*1000000000)+zd .i64 f) h' e a;let k:=L1 (zd .i64<|zd .i64 (v5*1000000000)+getD a (toNat b) 0) h' e a;let i:Tr:=.ite (v5==(-9223372036)) (.di (zd .i64 f<(-854775808)) d g) g;let b':Tr:=.ite (v5==(-9223372036)) (.di (getD a (toNat b) 0<(-854775808)) d k) k;.di (b>=0) (.ck (decide (0<=b)&&decide (b<(length a:Int)))<|.ite e (.ite h d<|.ite j d<|.ite (v5==9223372036) (.di (zd .i64 f>854775807) d i) i)<|.ite h d<|.ite j d<|.ite (v5==9223372036) (.di (getD a (toNat b) 0>854775807) d b') b') (.leaf (.tup [.dat i64 v5,.bl true]) []):=by kernel_rfl
end T77
namespace T181
def T[Srt](c:AF)(t h:Int):Tr:=tree AgE false 9 181<|Ag ([Ba,z7 zo,z7 zo]) (c,t,h)
theorem Aj[Srt](c:AF)(t h:Int):T c t h=let a:=getD (fst c) (toNat h) ([],[],[],[],[]);let e:=snd<|getD (fst<|snd c) (toNat t) ([],[]);let b:=B0 (fst<|snd a)<|fst<|snd<|snd a;let d:=getD e (toNat h) 0;let b':=B0 (Nr d)<|B0 (fst a) b;.ck (decide (0<=h)&&decide (h<(↑(length<|fst c):Int))) (.ck (decide (0<=t)&&decide (t<(↑(length<|fst<|snd c):Int)))<|.ck (decide (0<=h)&&decide (h<(↑(length e):Int)))<|.ck (Lt d)<|.ck (AU (fst<|snd a)&&AU (fst<|snd<|snd a))<|.ck (AU (fst a)&&AU b)<|.ck (AU (Nr d)&&AU (B0 (fst a) b))<|.ck (AU b'&&C0 [(48:UInt8)])<|.di (Eu b' [(48:UInt8)]>=0) (.leaf (.dat zu b') [])<|.leaf (.dat zu [(48:UInt8)]) []):=by kernel_rfl
end T181
namespace T127
def T[Srt](c:AF)(t h l:Int):Tr:=tree AgT false 9 127<|Ag ([Ba,z7 zo,z7 zo,z7 zo]) (c,t,h,l)
theorem Aj[Srt](c:AF)(t h l:Int):T c t h l=let a:=snd<|getD (snd<|snd c) (toNat l) ([],[],[],[],[]);let b':=fst<|snd<|snd<|snd<|getD (fst c) (toNat h) ([],[],[],[],[]);let b:=Zv c t h;let d:=B0 (fst a) b';let e:=fst<|snd a;let g:=DR (Gz b d) e;let f:=B0 e b';let h':=AU b&&C0 d;.ck (decide (0<=l)&&decide (l<(↑(length<|snd<|snd c):Int))) (.ck (decide (0<=h)&&decide (h<(↑(length<|fst c):Int)))<|.ck (Sp.okP c t h)<|.ck (AU (fst a)&&AU b')<|.ck h'<|.di (Eu b d<=0) (.ck (AU b&&AU (fst a))<|.ck (AU (DR b<|fst a)&&Wf d)<|.leaf (.dat zu<|FF (DR b<|fst a) d) [])<|.ck h'<|.ck (AU (Gz b d)&&AU e)<|.ck (AU e&&AU b')<|.ck (AU g&&Wf f)<|.ck (AU (fst a)&&AU (FF g f))<|.leaf (.dat zu<|B0 (fst a)<|FF g f) []):=by kernel_rfl
end T127
end
end Go.Pe
namespace Go.Sp
theorem fW{v:Int}(h0:0<v)(h:v<1000000000):BW v=[v]:=by
 have d:AA B9 [v]:=fun x a=>by rw[List.mem_singleton.1 a];exact⟨by omega,h⟩
 have t:=Fv d;have e:Aq [v]=v:=by show v+(B9:Int)*0=v;omega
 rw[e]at t;rw[<-t];show(if v=0 then[]else[v])=[v];rw[wc ae]
theorem Nu.GG{k:Nat}{s:Rd}{q:Rat}(h:Nu k s q):Nu k (GG s) (q.floor:Rat):=⟨by unfold Sp.GG;rw[h.rat,Tc],QZ h.z⟩
theorem GA{s:Rd}(h:Ap s=0)(a:s.length<=20):Nu 20 s (Ao s):=HZ h a af
end Go.Sp
namespace Go.Pe
open Sp
open Go.Det
open Go.Sp (AF Bs Bq AW Ey Bf)
theorem pT[Srt]:Cv AbH:=Aa T137.ok<|Aa T138.ok AB
namespace T77
theorem ok[Srt]:Af AY 77 YM:=by
 refine BA pT<|fun(s:Rd) a=>?_;have a:Adt s=true:=a;unfold Adt at a;rw[zl,zl,zl,zl,w5,w5,w5]at a;obtain⟨⟨⟨⟨w,l⟩,g⟩,m⟩,k⟩:=a;have i:Gy s=false:=w8 ae;have f:Ai (BU s)=BU s:=by rw[Al];omega
 have d:∀(v:Int) ob,v=BU s->Ac YM s (.tup [.dat i64 v,.bl true]) ob:=fun v ob e=>ya rfl rfl (by rw[e];rfl)
 refine zx (Aj s) (zc (w4 ae) (zj (by rw[w];rfl)<|zj (w8 ae)<|zc g ?_));rw[i];by_cases h:BU s=0
 ·have b:Ek s=[]:=by
   unfold Ek Sp.rW;rw[f,h];rfl
  rw[b];exact zg (Ak ..)<|zj rfl (zf<|d _ _ h.symm)
 ·have b:Ek s=[BU s]:=by
   unfold Ek Sp.rW;rw[f,fW ae k]
  rw[b];have j:zd .i64 (zd .i64 ((0:Int)*1000000000)+BU s)=BU s:=by
   rw[show zd .i64 ((0:Int)*1000000000)=0 from rfl,Int.zero_add];exact wr _ ae ae
  refine zg (Ak ..)<|zc rfl (zc rfl (zj rfl (zj rfl (zj rfl (zj rfl (zj rfl ?_))))));show Ends AbH (L1 (zd .i64<|zd .i64 ((0:Int)*1000000000)+BU s) (zd .i64<|(0:Int)-1) false [BU s]) _;rw[j];exact zg (Ak ..)<|zj rfl (zf<|d _ _ rfl)
end T77
theorem rE[Srt]:Cv AgE:=Aa T93.ok<|Aa T30.ok<|Aa T32.ok AB
structure HoN(c:AF)(t h:Int):Prop where
 rise:y9 20 (BE c h).1 (Ao (BE c h).1)
 wind:y9 20 (BE c h).2.1 (Ao (BE c h).2.1)
 lay:y9 20 (BE c h).2.2.1 (Ao (BE c h).2.2.1)
 roll:y9 20 (BE c h).2.2.2.1 (Ao (BE c h).2.2.2.1)
 te:y9 5 (Nr (Hq c t h)) (Hq c t h:Rat)
 pl:y9 70 (Zv c t h) (Mp c t h)
theorem Ai5{c:AF}{h:Int}(co:Y1 c)(sh:Ki c=true)(h0:0<=h/\h<(c.1.length:Int)):yz (BE c h)=true:=by
 refine(TX co sh ?_).2;unfold XU Jg;rw[w8 ae,w8 ae];rfl
theorem qA{c:AF}{t h:Int}(P:AtP c t h):HoN c t h:=by
 have s:=P.sh;obtain⟨e,b,d,a,_⟩:=O1<|Ai5 P.co s P.h0;exact⟨GA P.st.rise e,GA P.st.wind b,GA P.st.lay d,GA P.st.roll a,T3 (by have:=P.te;omega) af,⟨rfl,(mI P).z⟩⟩
theorem T181.ok[Srt]:Af AY 181 AfP:=by
 refine BA rE<|fun(i:AF×Int×Int) hi=>?_;obtain⟨c,t,h⟩:=i;have P:AtP c t h:=UO hi;have N:=qA P;have f:0<=h/\h<((c.2.1.getD t.toNat ([],[])).2.length:Int):=by rw[P.tl];exact P.h0
 have wl:=N.wind.B0 N.lay;have a:=N.rise.B0 wl;have p:=N.te.B0 a;have e:Lt (Hq c t h)=true:=w4 (by have:=P.te;omega);have d:=p.cmp My;have eq:(Hq c t h:Rat)+(Ao (BE c h).1+(Ao (BE c h).2.1+Ao (BE c h).2.2.1))=(Hq c t h:Rat)+(Ao (BE c h).1+Ao (BE c h).2.1+Ao (BE c h).2.2.1):=by rw[Rat.add_assoc<|Ao (BE c h).1]
 have b:Mp c t h=_:=XV _ _;rw[<-eq]at b;refine zx (T181.Aj c t h) (zc (G8 P.h0)<|zc (G8 P.t0)<|zc (G8 f)<|zc e<|zc (Ab (N.wind.num af)<|N.lay.num af)<|zc (Ab (N.rise.num af)<|wl.num af)<|zc (Ab (N.te.num af)<|a.num af)<|zc (Ab (p.num af)<|My.C0 af)<|zh (fun k=>zf<|ya rfl rfl ?_)<|fun k=>zf<|ya rfl rfl ?_)
 ·have k:=w6 k;show B0 (Nr<|Hq c t h) (B0 (BE c h).1<|B0 (BE c h).2.1 (BE c h).2.2.1)=AO (Mp c t h);rw[b,wc ?_, <-p.t];intro x;have k:0<=Eu (B0 (Nr<|Hq c t h)<|B0 (BE c h).1<|B0 (BE c h).2.1 (BE c h).2.2.1) [48]:=k;rw[d,wd x]at k;exact wh k af
 ·have k:=w7 k;show[48]=AO (Mp c t h);rw[b,wd ?_]
  ·exact My.t
  ·have k:¬0<=Eu (B0 (Nr<|Hq c t h)<|B0 (BE c h).1<|B0 (BE c h).2.1 (BE c h).2.2.1) [48]:=k;rw[d]at k;by_cases x:(Hq c t h:Rat)+(Ao (BE c h).1+(Ao (BE c h).2.1+Ao (BE c h).2.2.1))<0
   ·exact x
   ·rw[wc x]at k;exact wh (by split<;>decide) k
theorem tJ[Srt]:Cv AgT:=Aa T181.ok<|Aa T30.ok<|Aa T31.ok<|Aa T74.ok<|Aa T130.ok<|Aa T32.ok<|Aa T87.ok<|Aa T86.ok<|Aa T129.ok<|Aa T77.ok AB
structure LvN(c:AF)(l:Int):Prop where
 head:y9 20 (CU c l).2.1 (Ao (CU c l).2.1)
 next:y9 20 (CU c l).2.2.1 (Ao (CU c l).2.2.1)
theorem Ae8{c:AF}{l:Int}(L:AtL c l):LvN c l:=⟨GA L.lv.head L.ls.head,GA L.lv.next L.ls.next⟩
theorem T127.ok[Srt]:Af AY 127 Agd:=by
 refine BA tJ<|fun(i:AF×Int×Int×Int) hi=>?_;obtain⟨c,t,h,l⟩:=i;obtain⟨P,L,kp,ko,h0,n0⟩:=Qj (c:=c) (t:=t) (h:=h) (l:=l) hi;have N:=qA P;have V:=Ae8 L;have fr:=V.head.B0 N.roll;have b:=V.next.B0 N.roll;have a:=N.pl.cmp fr;have e:=N.pl.DR V.head;have q1:=e.FF fr h0;have d:=N.pl.Gz fr;have m:=d.DR V.next;have q:=m.FF b n0;have r:=V.head.B0 q;refine zx (T127.Aj c t h l) (zc (G8 L.l0) (zc (G8 P.h0)<|zc kp<|zc (Ab (V.head.num af)<|N.roll.num af)<|zc (Ab (N.pl.num af)<|fr.C0 af)<|zh (fun k=>?_)<|fun k=>?_))
 ·have k:=w6 k;have k:Eu (Zv c t h) (B0 (CU c l).2.1 (BE c h).2.2.2.1)<=0:=k;refine zc (Ab (N.pl.num af)<|V.head.num af) (zc (Ab (e.num af)<|fr.nz af h0)<|zf<|ya rfl rfl ?_);show FF (DR (Zv c t h) (CU c l).2.1) (B0 (CU c l).2.1 (BE c h).2.2.2.1)=AO (Si c t h l);unfold Si hI;rw[wd ?_]
  ·exact q1.t
  ·refine Rat.not_lt.1 fun x=>?_
   rw[a,wc<|Rat.not_lt.2<|Rat.le_of_lt x,wd x]at k;exact wh k af
 ·have k:=w7 k;have k:¬Eu (Zv c t h) (B0 (CU c l).2.1 (BE c h).2.2.2.1)<=0:=k;refine zc (Ab (N.pl.num af)<|fr.C0 af) (zc (Ab (d.num af)<|V.next.num af) (zc (Ab (V.next.num af)<|N.roll.num af)<|zc (Ab (m.num af)<|b.nz af n0)<|zc (Ab (V.head.num af)<|q.num af)<|zf<|ya rfl rfl ?_));show B0 (CU c l).2.1 (FF (DR (Gz (Zv c t h)<|B0 (CU c l).2.1 (BE c h).2.2.2.1) (CU c l).2.2.1)<|B0 (CU c l).2.2.1 (BE c h).2.2.2.1)=AO (Si c t h l);unfold Si hI;rw[wc ?_]
  ·exact r.t
  ·intro x;refine k ?_;rw[a];by_cases y:Mp c t h<Ao (CU c l).2.1+Ao (BE c h).2.2.2.1
   ·rw[wd y];decide
   ·rw[wc y,wc<|Rat.not_lt.2 x];decide
section
open List Int Prod
namespace T16
def T[Srt](i n:Int):Tr:=tree GK false 9 16<|Ag ([z7 zo,z7 zo]) (i,n)
theorem Aj[Srt](i n:Int):T i n=.di (i<0) (.leaf (.bl true) []) (.leaf (.dat Sh.bool<|decide (i>=n)) []):=by kernel_rfl
end T16
namespace T15
def T[Srt](b:Bool)(e:Int):Tr:=tree GK false 9 15<|Ag ([Sh.bool,z7 zo]) (b,e)
theorem Aj[Srt](b:Bool)(e:Int):T b e=.ite b (.leaf (.dat i64 e) []) (.leaf (.dat i64 (0:Int)) []):=by kernel_rfl
end T15
end
open Go.Sp (AF Bs Bq AW Ey Bf B7 q0 q1 n0 n1)
theorem Acy{s:Sh}{sz id:Nat}{ob:Ob}{fz:Bool}{t:TypeId}{o:List s.T}(b:s.sz=sz)(a:AR ob id=some (.arr fz t s o)):B4 ⟨0,.leaf,ob,0⟩ (.sl id sz 0 o.length none)=some (true,.dat (.list s) o):=by
 subst b;unfold B4 AQ.obj;simp only[a,Nat.beq_refl,we];simp
theorem Aeb{e b nx:Bf}{t w:List AW}{n id:Nat}{ob:Ob}{fz:Bool}{ty:TypeId}(f:AR ob id=some (.arr fz ty B8 w))(i:n=w.length):Ft ⟨0,.leaf,ob,0⟩ Bk (.agg [.dat .str e,.dat .str b,.dat .str nx,.dat (.list B8) t,.sl id 2 0 n none])=some (true,(e,b,nx,t,w)):=by
 subst i;have g:B4 ⟨0,.leaf,ob,0⟩ (.sl id 2 0 w.length none)=some (true,.dat (.list B8) w):=Acy (s:=B8) (sz:=2) rfl f;have h:Dn ⟨0,.leaf,ob,0⟩ (PV.cells<|.agg [.dat .str e,.dat .str b,.dat .str nx,.dat (.list B8) t,.sl id 2 0 w.length none])=some (true,[.dat .str e,.dat .str b,.dat .str nx,.dat (.list B8) t,.dat (.list B8) w]):=by
  show(match some (true,PV.dat zu e),(match some (true,PV.dat zu b),(match some (true,PV.dat zu nx),(match some (true,PV.dat (.list B8) t),(match B4 ⟨0,.leaf,ob,0⟩ (.sl id 2 0 w.length none),some (true,[])with|some (c,x),some (d,a)=>some (c&&d,x::a)|_,_=>none)with|some (c,x),some (d,a)=>some (c&&d,x::a)|_,_=>none)with|some (c,x),some (d,a)=>some (c&&d,x::a)|_,_=>none)with|some (c,x),some (d,a)=>some (c&&d,x::a)|_,_=>none)with|some (c,x),some (d,a)=>some (c&&d,x::a)|_,_=>none)=_;rw[g];rfl
 unfold Ft;rw[h];rfl
theorem AdA{b a nx:Bf}{t w:List AW}{n id:Nat}{ob:Ob}{fz:Bool}{ty:TypeId}(d:AR ob id=some (.arr fz ty B8 w))(e:n=w.length):KZ [Bk] (.agg [.dat .str b,.dat .str a,.dat .str nx,.dat (.list B8) t,.sl id 2 0 n none]) ob=some (true,(b,a,nx,t,w)):=Aeb d e
theorem Af7{n m:Nat}(h:n=m)(a:n<=4398046511104):(decide (1<=1)&&true&&decide (n=m)&&decide ((3*(n+1)+2000)*32<=562949953421312))=true:=Ab (Ab (Ab rfl rfl)<|w4 h) (w4 ae)
namespace T37
theorem Dk[Srt](g f nx:Bf)(t w:List AW)(k m q:Bf)(y:w.length<=4398046511104):∀(r:List AW) (i n:Nat) (o:List AW),w.drop i=r->i<=w.length->n=o.length->o=w.take i->n=i->Ends GK (L2 (i:Int) o g f nx t n k m q g f nx t w) (Ac kL (g,f,nx,t,w))
 |[],i,n,o,h,v,j,b,a=>by
  have e:=drop_nil h v;have b:o=w:=by rw[b,e,zm]
  subst b;exact zg (Az ..) (zj (w8 ae)<|zf<|ya (AdA rfl j) rfl rfl)
 |p::r,i,n,o,h,v,j,b,a=>by
  have t2:=Sp.Dl h;obtain⟨z,A,x⟩:=drop_cons (d:=(([],[]):AW)) h;have B:=wn (i:=i) ae;have u:=nb (i:=i) (n:=w.length) ae;refine zg (Az ..) ?_;conv=>zeta
  rw[ze,A,B];refine zc (w4 ae) (zc u<|zc u<|zc (Af7 j ae) ?_);exact Dk g f nx t w k m q y r (i+1) (zq n 1) (o++[p]) x z (by rw[zp,j];rfl) (by rw[t2,b]) (by rw[a])
theorem ok[Srt]:Af AY 37 kL:=by
 refine BA Ww<|fun(l:Bq) hi=>?_;obtain⟨d,b,nx,t,w⟩:=l;have a:decide (w.length<=4398046511104)=true:=hi;have a:=w6 a;refine zx (Aj (d,b,nx,t,w)) ?_;conv=>zeta
 cases w with
 |nil=>exact zg (Ak ..)<|zj rfl (zf<|ya rfl rfl rfl)
 |cons p r=>
  have g:zd .i64 ((0:Int)+1)=((1:Nat):Int):=rfl;have f:(p::r).getD (zy 0) ([],[])=p:=rfl;have e:(decide ((0:Int)<=(0:Int))&&decide ((0:Int)<((p::r).length:Int)))=true:=Ab rfl (w4<|by rw[zi];omega);refine zg (Ak ..) ?_;conv=>zeta
  show Ends GK (.ite (decide ((0:Int)<((p::r).length:Int))) _ _) _;rw[f,g];refine zc (w4<|by rw[zi];omega) (zc e<|zc e<|zc (Ab (Ab rfl rfl)<|w4 ae) ?_);exact Dk d b nx t (p::r) [] [] [] a r 1 1 [p] rfl (by rw[zi];omega) rfl rfl rfl
end T37
open Go.Sp (AF Bs Bq AW Ey Bf B7)
def CV(st:AQ)(s:Sh)(v:PV)(l:List s.T):Prop:=∃x,B4 st v=some (true,x)/\(x=.dat (.list s) l\/x=.nil/\l=[])
theorem FZ{st:AQ}{s:Sh}:CV st s .nil []:=⟨.nil,rfl,.inr ⟨rfl,rfl⟩⟩
theorem IU{s:Sh}{sz id:Nat}{ob:Ob}{fz:Bool}{t:TypeId}{l:List s.T}(b:s.sz=sz)(a:AR ob id=some (.arr fz t s l)):CV ⟨0,.leaf,ob,0⟩ s (.sl id sz 0 l.length none) l:=⟨_,Acy b a,.inl rfl⟩
theorem AdW{ob:Ob}{a b d:PV}{S:List Bs}{f:List B7}{V:List Bq}(j:CV ⟨0,.leaf,ob,0⟩ Bw a S)(i:CV ⟨0,.leaf,ob,0⟩ CY b f)(g:CV ⟨0,.leaf,ob,0⟩ Bk d V):Ft ⟨0,.leaf,ob,0⟩ Ba (.agg [a,b,d])=some (true,(S,f,V)):=by
 obtain⟨x,m,h⟩:=j;obtain⟨y,hy,cy⟩:=i;obtain⟨z,hz,cz⟩:=g;have k:Dn ⟨0,.leaf,ob,0⟩ (PV.cells<|.agg [a,b,d])=some (true,[x,y,z]):=by
  show(match B4 ⟨0,.leaf,ob,0⟩ a,(match B4 ⟨0,.leaf,ob,0⟩ b,(match B4 ⟨0,.leaf,ob,0⟩ d,some (true,[])with|some (c,x),some (d,e)=>some (c&&d,x::e)|_,_=>none)with|some (c,x),some (d,e)=>some (c&&d,x::e)|_,_=>none)with|some (c,x),some (d,e)=>some (c&&d,x::e)|_,_=>none)=_;rw[m,hy,hz];rfl
 unfold Ft;rw[k];rcases h with rfl|⟨rfl,rfl⟩<;>rcases cy with rfl|⟨rfl,rfl⟩<;>rcases cz with rfl|⟨rfl,rfl⟩<;>rfl
theorem FO{ob:Ob}{a b d:PV}{c:AF}(e:CV ⟨0,.leaf,ob,0⟩ Bw a c.1)(g:CV ⟨0,.leaf,ob,0⟩ CY b c.2.1)(f:CV ⟨0,.leaf,ob,0⟩ Bk d c.2.2):Ac KO c (.agg [a,b,d]) ob:=⟨c,AdW e g f,rfl⟩
theorem Sk{n m k:Nat}(h:n=m)(a:(3*(n+1)+2000)*k<=562949953421312):(decide (1<=1)&&true&&decide (n=m)&&decide ((3*(n+1)+2000)*k<=562949953421312))=true:=Ab (Ab (Ab rfl rfl)<|w4 h)<|w4 a
theorem Sn{k:Nat}(a:k<=100):(decide (1<=1)&&decide (0<1)&&decide ((3*1+2000)*k<=562949953421312))=true:=Ab (Ab rfl rfl) (w4<|Nat.le_trans (Nat.mul_le_mul_left _ a) af)
structure VA(c:AF):Prop where
 s:c.1.length<=1599289640401
 t:c.2.1.length<=3518437208883
 l:c.2.2.length<=1466015503701
 so:∀x∈c.1,x.2.2.2.2.length<=5864062014805
 lo:∀x∈c.2.2,jN x=true
theorem Adf{c:AF}(h:Sp.smC c=true):VA c:=by
 unfold Sp.smC at h;rw[zl,zl,zl,zl,w5,w5,w5,zz,zz]at h;obtain⟨⟨⟨⟨a,d⟩,f⟩,b⟩,e⟩:=h;exact⟨a,d,f,fun x g=>w6<|b x g,e⟩
theorem C5{i n:Nat}(h:i<n):(decide ((0:Int)<=(i:Int))&&decide ((i:Int)<(n:Int)))=true:=ad ae ae
theorem wO{i:Nat}(h:i<=4611686018427387904):zd .i64 ((i:Int)+1)=((i+1:Nat):Int):=by rw[wr _ ae ae];omega
theorem sF[Srt]:Cv B3:=Aa T37.ok AB
namespace T7
theorem Agx[Srt](c:AF)(g:VA c)(m:c.1=[])(q:c.2.1=[]):∀(r:List Bq) (i n:Nat) (o:List Bq),c.2.2.drop i=r->i<=c.2.2.length->n=o.length->o=c.2.2.take i->n=i->Ends B3 (L12 c (i:Int) o n) (Ac KO c)
 |[],i,n,o,h,k,f,b,a=>by
  have e:=drop_nil h k;have b:o=c.2.2:=by rw[b,e,zm]
  subst b;subst f;exact zg (qR ..) (zj (w8 ae) (zf<|FO (by rw[m];exact FZ) (by rw[q];exact FZ)<|IU rfl rfl))
 |p::r,i,n,o,h,k,f,b,a=>by
  have t2:=Dl h;obtain⟨j,u,v⟩:=drop_cons (d:=(([],[],[],[],[]):Bq)) h;have w:=g.lo p (zn<|by rw[h];exact zk ..);have x:=g.l;refine zg (qR ..) ?_;conv=>zeta
  rw[ze,u,wO ae];refine zc (w4 ae) (zc (C5 j)<|zc w<|zc (Sk f ae) ?_);exact Agx c g m q r (i+1) (zq n 1) (o++[p]) v j (by rw[zp,f];rfl) (by rw[t2,b]) (by rw[a])
theorem Ai9[Srt](c:AF)(a:VA c)(e:c.1=[])(b:c.2.1=[]):Ends B3 (L8 c 0) (Ac KO c):=by
 have h:=a.l;cases hr:c.2.2 with
 |nil=>exact zg (HG ..) (zj (by rw[hr];rfl)<|zf<|FO (by rw[e];exact FZ) (by rw[b];exact FZ)<|by rw[hr];exact FZ)
 |cons p r=>
  have d:0<c.2.2.length:=by rw[hr,zi];omega
  have g:c.2.2.getD (zy 0) ([],[],[],[],[])=p:=by rw[hr];rfl
  have f:=a.lo p (by rw[hr];exact zk ..);refine zg (HG ..) ?_;conv=>zeta
  rw[g,show zd .i64 ((0:Int)+1)=((1:Nat):Int)from rfl];refine zc (w4 ae) (zc (C5 (i:=0) d)<|zc f<|zc (Sn af) ?_);exact Agx c a e b r 1 1 [p] (by rw[hr];rfl) d rfl (by rw[hr];rfl) rfl
theorem AgK[Srt](c:AF)(g:VA c)(m:c.1=[]):∀(r:List Bq) (i n:Nat) (o:List Bq),c.2.2.drop i=r->i<=c.2.2.length->n=o.length->o=c.2.2.take i->n=i->Ends B3 (L16 c (i:Int) o c.2.1 c.2.1.length n) (Ac KO c)
 |[],i,n,o,h,k,f,b,a=>by
  have e:=drop_nil h k;have b:o=c.2.2:=by rw[b,e,zm]
  subst b;subst f;exact zg (mE ..) (zj (w8 ae) (zf<|FO (by rw[m];exact FZ) (IU rfl rfl)<|IU rfl rfl))
 |p::r,i,n,o,h,k,f,b,a=>by
  have t2:=Dl h;obtain⟨j,q,u⟩:=drop_cons (d:=(([],[],[],[],[]):Bq)) h;have v:=g.lo p (zn (by rw[h];exact zk ..));have w:=g.l;refine zg (mE ..) ?_;conv=>zeta
  rw[ze,q,wO ae];refine zc (w4 ae) (zc (C5 j)<|zc v<|zc (Sk f ae) ?_);exact AgK c g m r (i+1) (zq n 1) (o++[p]) u j (by rw[zp,f];rfl) (by rw[t2,b]) (by rw[a])
theorem Ajg[Srt](c:AF)(a:VA c)(d:c.1=[]):Ends B3 (L11 c 0 c.2.1 c.2.1.length) (Ac KO c):=by
 have g:=a.l;cases hr:c.2.2 with
 |nil=>exact zg (oS ..) (zj (by rw[hr];rfl)<|zf<|FO (by rw[d];exact FZ) (IU rfl rfl)<|by rw[hr];exact FZ)
 |cons p r=>
  have b:0<c.2.2.length:=by rw[hr,zi];omega
  have f:c.2.2.getD (zy 0) ([],[],[],[],[])=p:=by rw[hr];rfl
  have e:=a.lo p (by rw[hr];exact zk ..);refine zg (oS ..) ?_;conv=>zeta
  rw[f,show zd .i64 ((0:Int)+1)=((1:Nat):Int)from rfl];refine zc (w4 ae) (zc (C5 (i:=0) b)<|zc e<|zc (Sn af) ?_);exact AgK c a d r 1 1 [p] (by rw[hr];rfl) b rfl (by rw[hr];rfl) rfl
theorem Ag9[Srt](c:AF)(g:VA c)(m:c.2.1=[]):∀(r:List Bq) (i n:Nat) (o:List Bq),c.2.2.drop i=r->i<=c.2.2.length->n=o.length->o=c.2.2.take i->n=i->Ends B3 (L18 c (i:Int) o c.1 c.1.length n) (Ac KO c)
 |[],i,n,o,h,k,f,b,a=>by
  have e:=drop_nil h k;have b:o=c.2.2:=by rw[b,e,zm]
  subst b;subst f;exact zg (lH ..) (zj (w8 ae) (zf<|FO (IU rfl rfl) (by rw[m];exact FZ)<|IU rfl rfl))
 |p::r,i,n,o,h,k,f,b,a=>by
  have t2:=Dl h;obtain⟨j,q,u⟩:=drop_cons (d:=(([],[],[],[],[]):Bq)) h;have v:=g.lo p (zn (by rw[h];exact zk ..));have w:=g.l;refine zg (lH ..) ?_;conv=>zeta
  rw[ze,q,wO ae];refine zc (w4 ae) (zc (C5 j) (zc v<|zc (Sk f ae) ?_));exact Ag9 c g m r (i+1) (zq n 1) (o++[p]) u j (by rw[zp,f];rfl) (by rw[t2,b]) (by rw[a])
theorem Aix[Srt](c:AF)(a:VA c)(b:c.2.1=[]):Ends B3 (L15 c 0 c.1 c.1.length) (Ac KO c):=by
 have g:=a.l;cases hr:c.2.2 with
 |nil=>exact zg (pH ..) (zj (by rw[hr];rfl)<|zf<|FO (IU rfl rfl) (by rw[b];exact FZ)<|by rw[hr];exact FZ)
 |cons p r=>
  have d:0<c.2.2.length:=by rw[hr,zi];omega
  have f:c.2.2.getD (zy 0) ([],[],[],[],[])=p:=by rw[hr];rfl
  have e:=a.lo p (by rw[hr];exact zk ..);refine zg (pH ..) ?_;conv=>zeta
  rw[f,show zd .i64 ((0:Int)+1)=((1:Nat):Int)from rfl];refine zc (w4 ae) (zc (C5 (i:=0) d)<|zc e<|zc (Sn af) ?_);exact Ag9 c a b r 1 1 [p] (by rw[hr];rfl) d rfl (by rw[hr];rfl) rfl
theorem Ahe[Srt](c:AF)(g:VA c):∀(r:List Bq) (i n:Nat) (o:List Bq),c.2.2.drop i=r->i<=c.2.2.length->n=o.length->o=c.2.2.take i->n=i->Ends B3 (L19 c (i:Int) o c.2.1 c.1 c.1.length c.2.1.length n) (Ac KO c)
 |[],i,n,o,h,k,f,b,a=>by
  have e:=drop_nil h k;have b:o=c.2.2:=by rw[b,e,zm]
  subst b;subst f;exact zg (nN ..) (zj (w8 ae)<|zf<|FO (IU rfl rfl) (IU rfl rfl)<|IU rfl rfl)
 |p::r,i,n,o,h,k,f,b,a=>by
  have t2:=Dl h;obtain⟨j,m,q⟩:=drop_cons (d:=(([],[],[],[],[]):Bq)) h;have u:=g.lo p (zn<|by rw[h];exact zk ..);have v:=g.l;refine zg (nN ..) ?_;conv=>zeta
  rw[ze,m,wO ae];refine zc (w4 ae) (zc (C5 j) (zc u<|zc (Sk f ae) ?_));exact Ahe c g r (i+1) (zq n 1) (o++[p]) q j (by rw[zp,f];rfl) (by rw[t2,b]) (by rw[a])
theorem AiU[Srt](c:AF)(a:VA c):Ends B3 (L17 c 0 c.2.1 c.1 c.1.length c.2.1.length) (Ac KO c):=by
 have f:=a.l;cases hr:c.2.2 with
 |nil=>exact zg (lL ..) (zj (by rw[hr];rfl)<|zf<|FO (IU rfl rfl) (IU rfl rfl)<|by rw[hr];exact FZ)
 |cons p r=>
  have b:0<c.2.2.length:=by rw[hr,zi];omega
  have e:c.2.2.getD (zy 0) ([],[],[],[],[])=p:=by rw[hr];rfl
  have d:=a.lo p (by rw[hr];exact zk ..);refine zg (lL ..) ?_;conv=>zeta
  rw[e,show zd .i64 ((0:Int)+1)=((1:Nat):Int)from rfl];refine zc (w4 ae) (zc (C5 (i:=0) b) (zc d<|zc (Sn af) ?_));exact Ahe c a r 1 1 [p] (by rw[hr];rfl) b rfl (by rw[hr];rfl) rfl
theorem te6[Srt](c:AF)(g:VA c)(m:c.1=[]):∀(r:List B7) (i n:Nat) (o:List B7),c.2.1.drop i=r->i<=c.2.1.length->n=o.length->o=c.2.1.take i->n=i->Ends B3 (L7 c (i:Int) o n) (Ac KO c)
 |[],i,n,o,h,k,f,b,a=>by
  have e:=drop_nil h k;have b:o=c.2.1:=by rw[b,e,zm]
  subst b;subst f;exact zg (DY ..) (zj (w8 ae)<|Ajg c g m)
 |p::r,i,n,o,h,k,f,b,a=>by
  have t2:=Dl h;obtain⟨j,u,q⟩:=drop_cons (d:=(([],[]):B7)) h;have v:=g.t;refine zg (DY ..) ?_;conv=>zeta
  rw[ze,u,wO ae];refine zc (w4 ae) (zc (C5 j)<|zc (C5 j) (zc (Sk f ae) ?_));exact te6 c g m r (i+1) (zq n 1) (o++[p]) q j (by rw[zp,f];rfl) (by rw[t2,b]) (by rw[a])
theorem ts6[Srt](c:AF)(a:VA c)(d:c.1=[]):Ends B3 (L4 c 0) (Ac KO c):=by
 have f:=a.t;cases hr:c.2.1 with
 |nil=>exact zg (B1 ..) (zj (by rw[hr];rfl)<|Ai9 c a d hr)
 |cons p r=>
  have b:0<c.2.1.length:=by rw[hr,zi];omega
  have e:c.2.1.getD (zy 0) ([],[])=p:=by rw[hr];rfl
  refine zg (B1 ..) ?_;conv=>zeta
  rw[e,show zd .i64 ((0:Int)+1)=((1:Nat):Int)from rfl];refine zc (w4 ae) (zc (C5 (i:=0) b) (zc (C5 (i:=0) b)<|zc (Sn af) ?_));exact te6 c a d r 1 1 [p] (by rw[hr];rfl) b rfl (by rw[hr];rfl) rfl
theorem AgS[Srt](c:AF)(g:VA c):∀(r:List B7) (i n:Nat) (o:List B7),c.2.1.drop i=r->i<=c.2.1.length->n=o.length->o=c.2.1.take i->n=i->Ends B3 (L14 c (i:Int) o c.1 c.1.length n) (Ac KO c)
 |[],i,n,o,h,k,f,b,a=>by
  have e:=drop_nil h k;have b:o=c.2.1:=by rw[b,e,zm]
  subst b;subst f;exact zg (vN ..) (zj (w8 ae)<|AiU c g)
 |p::r,i,n,o,h,k,f,b,a=>by
  have t2:=Dl h;obtain⟨j,q,m⟩:=drop_cons (d:=(([],[]):B7)) h;have u:=g.t;refine zg (vN ..) ?_;conv=>zeta
  rw[ze,q,wO ae];refine zc (w4 ae) (zc (C5 j)<|zc (C5 j) (zc (Sk f ae) ?_));exact AgS c g r (i+1) (zq n 1) (o++[p]) m j (by rw[zp,f];rfl) (by rw[t2,b]) (by rw[a])
theorem Aih[Srt](c:AF)(a:VA c):Ends B3 (L10 c 0 c.1 c.1.length) (Ac KO c):=by
 have e:=a.t;cases hr:c.2.1 with
 |nil=>exact zg (TU ..) (zj (by rw[hr];rfl)<|Aix c a hr)
 |cons p r=>
  have b:0<c.2.1.length:=by rw[hr,zi];omega
  have d:c.2.1.getD (zy 0) ([],[])=p:=by rw[hr];rfl
  refine zg (TU ..) ?_;conv=>zeta
  rw[d,show zd .i64 ((0:Int)+1)=((1:Nat):Int)from rfl];refine zc (w4 ae) (zc (C5 (i:=0) b) (zc (C5 (i:=0) b)<|zc (Sn af) ?_));exact AgS c a r 1 1 [p] (by rw[hr];rfl) b rfl (by rw[hr];rfl) rfl
theorem Afy[Srt](c:AF)(m:VA c)(i n:Nat)(o:List Bs)(p:Bs)(a:i<c.1.length)(v:c.1.getD i ([],[],[],[],[])=p)(z:n=o.length)(x:n=i)(K:Ends B3 (L6 c ((i+1:Nat):Int) (o++[p])<|zq n 1) Q):∀(r:List Ey) (j k:Nat) (q:List Ey),p.2.2.2.2.drop j=r->j<=p.2.2.2.2.length->k=q.length->q=p.2.2.2.2.take j->k=j->Ends B3 (L13 c (i:Int) (j:Int) q o p.1 p.2.1 p.2.2.1 p.2.2.2.1 k n) Q
 |[],j,k,q,h,y,u,g,f=>by
  have e:=drop_nil h y;have g:q=p.2.2.2.2:=by rw[g,e,zm]
  have C:=m.s;subst g;subst u;refine zg (sZ ..) ?_;conv=>zeta
  rw[ze,ze,v,zm,wO (i:=i) ae];refine zc (C5 a) (zj (w8 ae) (zc (Ab (w4 ae) rfl)<|zc (Sk z ae) ?_));exact K
 |b::r,j,k,q,h,y,u,g,f=>by
  have t2:=Dl h;obtain⟨w,B,A⟩:=drop_cons (d:=(([],0):Ey)) h;have C:=m.s;have D:=m.so p (by rw[<-v];exact Fb a);refine zg (sZ ..) ?_;conv=>zeta
  rw[ze,ze,v,B,wO (i:=j) ae];refine zc (C5 a) (zc (w4 ae) (zc (C5 a)<|zc (C5 w) (zc (C5 a) (zc (C5 w)<|zc (Sk u ae) ?_))));exact Afy c m i n o p a v z x K r (j+1) (zq k 1) (q++[b]) A w (by rw[zp,u];rfl) (by rw[t2,g]) (by rw[f])
theorem in8[Srt](c:AF)(e:VA c)(i n:Nat)(o:List Bs)(p:Bs)(a:i<c.1.length)(g:c.1.getD i ([],[],[],[],[])=p)(h:n=o.length)(d:n=i)(K:Ends B3 (L6 c ((i+1:Nat):Int) (o++[p])<|zq n 1) Q):Ends B3 (L9 c (i:Int) 0 o p.1 p.2.1 p.2.2.1 p.2.2.2.1 n) Q:=by
 have u:=e.s;obtain⟨j,k,q,m,l⟩:=p;refine zg (vE ..) ?_;conv=>zeta
 rw[ze,g,wO (i:=i) ae];cases l with
 |nil=>
  refine zc (C5 a) (zj rfl (zc (Sk h ae) ?_));exact K
 |cons b r=>
  have f:0<(b::r).length:=by rw[zi];omega
  refine zc (C5 a) (zc (w4<|by rw[zi];omega) (zc (C5 a)<|zc (C5 (i:=0) f) (zc (C5 a)<|zc (C5 (i:=0) f)<|zc (Sn af) ?_)));exact Afy c e i n o (j,k,q,m,b::r) a g h d K r 1 1 [b] rfl (by show 1<=(b::r).length;omega) rfl rfl rfl
theorem si5[Srt](c:AF)(j:VA c):∀(r:List Bs) (i n:Nat) (o:List Bs),c.1.drop i=r->i<=c.1.length->n=o.length->o=c.1.take i->n=i->Ends B3 (L6 c (i:Int) o n) (Ac KO c)
 |[],i,n,o,h,k,g,f,a=>by
  have e:=drop_nil h k;have f:o=c.1:=by rw[f,e,zm]
  subst f;subst g;exact zg (EW ..) (zj (w8 ae)<|Aih c j)
 |p::r,i,n,o,h,k,g,f,a=>by
  have t2:=Dl h;obtain⟨b,m,q⟩:=drop_cons (d:=(([],[],[],[],[]):Bs)) h;have K:=si5 c j r (i+1) (zq n 1) (o++[p]) q b (by rw[zp,g];rfl) (by rw[t2,f]) (by rw[a]);have u:=in8 c j i n o p b m g a K;refine zg (EW ..) ?_;conv=>zeta
  rw[ze,m];exact zc (w4 ae)<|zc (C5 b)<|zc (C5 b)<|zc (C5 b)<|zc (C5 b) u
theorem in4[Srt](c:AF)(u:VA c)(p:Bs)(a:0<c.1.length)(n:c.1.getD 0 ([],[],[],[],[])=p)(K:Ends B3 (L6 c ((1:Nat):Int) [p] 1) Q):∀(r:List Ey) (j k:Nat) (q:List Ey),p.2.2.2.2.drop j=r->j<=p.2.2.2.2.length->k=q.length->q=p.2.2.2.2.take j->k=j->Ends B3 (L5 c 0 (j:Int) q p.1 p.2.1 p.2.2.1 p.2.2.2.1 k) Q
 |[],j,k,q,h,v,m,f,g=>by
  have e:=drop_nil h v;have f:q=p.2.2.2.2:=by rw[f,e,zm]
  subst f;subst m;refine zg (D0 ..) ?_;conv=>zeta
  rw[show zy 0=0 from rfl,ze,n,zm,show zd .i64 ((0:Int)+1)=((1:Nat):Int)from rfl];refine zc (C5 (i:=0) a) (zj (w8 ae) (zc (Ab (w4 ae) rfl)<|zc (Sn af) ?_));exact K
 |b::r,j,k,q,h,v,m,f,g=>by
  have t2:=Dl h;obtain⟨o,x,w⟩:=drop_cons (d:=(([],0):Ey)) h;have y:=u.so p (by rw[<-n];exact Fb a);refine zg (D0 ..) ?_;conv=>zeta
  rw[show zy 0=0 from rfl,ze,n,x,wO (i:=j) ae];refine zc (C5 (i:=0) a) (zc (w4 ae)<|zc (C5 (i:=0) a) (zc (C5 o)<|zc (C5 (i:=0) a)<|zc (C5 o)<|zc (Sk m ae) ?_));exact in4 c u p a n K r (j+1) (zq k 1) (q++[b]) w o (by rw[zp,m];rfl) (by rw[t2,f]) (by rw[g])
theorem in2[Srt](c:AF)(j:VA c)(p:Bs)(a:0<c.1.length)(e:c.1.getD 0 ([],[],[],[],[])=p)(K:Ends B3 (L6 c ((1:Nat):Int) [p] 1) Q):Ends B3 (L3 c 0 0 p.1 p.2.1 p.2.2.1 p.2.2.2.1) Q:=by
 obtain⟨f,g,h,k,l⟩:=p;refine zg (Be ..) ?_;conv=>zeta
 rw[show zy 0=0 from rfl,e,show zd .i64 ((0:Int)+1)=((1:Nat):Int)from rfl];cases l with
 |nil=>
  refine zc (C5 (i:=0) a) (zj rfl (zc (Sn af) ?_));exact K
 |cons b r=>
  have d:0<(b::r).length:=by rw[zi];omega
  refine zc (C5 (i:=0) a) (zc (w4<|by rw[zi];omega)<|zc (C5 (i:=0) a)<|zc (C5 (i:=0) d)<|zc (C5 (i:=0) a)<|zc (C5 (i:=0) d)<|zc (Sn af) ?_);exact in4 c j (f,g,h,k,b::r) a e K r 1 1 [b] rfl (by show 1<=(b::r).length;omega) rfl rfl rfl
theorem ok[Srt]:Af AY 7 KO:=by
 refine BA sF<|fun(c:AF) hi=>?_;have b:=Adf hi;refine zx (Aj c)<|zg (Ak ..) ?_;cases hr:c.1 with
 |nil=>exact zg (Az ..) (zj (by rw[hr];rfl)<|ts6 c b hr)
 |cons p r=>
  have a:0<c.1.length:=by rw[hr,zi];omega
  have d:c.1.getD 0 ([],[],[],[],[])=p:=by rw[hr];rfl
  have k:=in2 c b p a d (si5 c b r 1 1 [p] (by rw[hr];rfl) a rfl (by rw[hr];rfl) rfl);refine zg (Az ..) ?_;conv=>zeta
  rw[show zy 0=0 from rfl,d];exact zc (w4 ae)<|zc (C5 (i:=0) a)<|zc (C5 (i:=0) a)<|zc (C5 (i:=0) a)<|zc (C5 (i:=0) a) k
end T7
open Go.Sp (AF)
theorem T16.ok[Srt]:Af AY 16 AcC:=by
 refine He (X:=GK) rfl (fun g sp h=>by cases h) (d:=9) ag ag ag (fun(i:Int×Int) _=>?_) (Bd ag);obtain⟨i,n⟩:=i;refine zx (T16.Aj i n)<|zh (fun c=>zf<|ya rfl rfl ?_)<|fun c=>zf<|ya rfl rfl ?_
 ·show true=Sp.Jg i n;unfold Sp.Jg;rw[c];rfl
 ·show decide (n<=i)=Sp.Jg i n;unfold Sp.Jg;rw[c];rfl
theorem T15.ok[Srt]:Af AY 15 Gw:=by
 refine He (X:=GK) rfl (fun g sp h=>by cases h) (d:=9) ag ag ag (fun(i:Bool×Int) _=>?_) (Bd ag);obtain⟨b,e⟩:=i;refine zx (T15.Aj b e) ?_;conv=>zeta
 cases b
 ·exact zj rfl (zf<|ya rfl rfl rfl)
 ·exact zc rfl (zf<|ya rfl rfl rfl)
end Go.Pe
namespace Go.Sp
theorem Ol{s:Bf}{d:Nat}(h:Cm s (d:Int)=true):C3 d (Ao s):=by
 have e:Ap s=0:=by
  simp_all [Cm]
 exact(vC e).z.mono<|mD h
theorem Ahq{n:Int}(h:1<=n/\n<=10000):C3 5 (n:Rat):=by
 grind [Rat.num_intCast,Rat.den_intCast,C3]
theorem uZ:C3 1 (0:Rat):=by unfold C3;simp
structure StF(s:Bs):Prop where
 rise:C3 4 (Ao s.1)
 wind:C3 4 (Ao s.2.1)
 lay:C3 4 (Ao s.2.2.1)
 roll:C3 4 (Ao s.2.2.2.1)
 len:s.2.2.2.2.length<=6
structure LvF(l:Bq):Prop where
 head:C3 4 (Ao l.2.1)
 next:C3 4 (Ao l.2.2.1)
 tab:∀p∈l.2.2.2.1,C3 4 (Ao p.1)/\C3 4 (Ao p.2)
 wts:∀p∈l.2.2.2.2,C3 4 (Ao p.2)
theorem AdG{s:Bs}{n:Int}(f:n<=6)(h:IZ s n 4=true):StF s:=by
 unfold IZ at h;simp only[zl,w5]at h;obtain⟨⟨⟨⟨a,b⟩,c⟩,d⟩,e⟩:=h;exact⟨Ol b,Ol c,Ol d,Ol e,by omega⟩
theorem AeJ{l:Bq}{n:Int}(h:EU l n 4=true):LvF l:=by
 unfold EU fwP zG at h;simp only[zl,w5,zz]at h;obtain⟨⟨⟨_,b⟩,c⟩,d,e⟩:=h;exact⟨Ol b,Ol c,(by grind [Ol]),fun p hp=>Ol<|e p hp⟩
theorem Ahz{s:Bs}{n:Int}(h:StF s)(a:1<=n/\n<=10000):C3 20 (plV s n):=by
 rw[XV];split
 ·exact uZ.mono af
 ·exact((Ahq a).add<|(h.rise.add h.wind).add h.lay).mono af
theorem Agc{p a n r:Rat}(hp:C3 20 p)(b:C3 4 a)(d:C3 4 n)(hr:C3 4 r)(h0:a+r≠0)(n0:n+r≠0):C3 48 (hI p a n r):=by
 unfold hI;split
 ·exact((hp.mul b).div (b.add hr) h0).mono af
 ·exact(b.add<|((hp.sub<|b.add hr).mul d).div (d.add hr) n0).mono af
theorem Aey{x:Rat}(f:C3 48 x):∀(l:List AW) (o:Option AW),(∀q,o=some q->C3 4 (Ao q.1)/\C3 4 (Ao q.2))->(∀p∈l,C3 4 (Ao p.1)/\C3 4 (Ao p.2))->(o=none->l≠[])->Dz o l=0->C3 77 (O7 (o.map pt) (l.map pt) x)
 |[],none,_,_,h,_=>ah
 |[],some q,d,_,_,_=>by
  exact(d q rfl).2.mono af
 |p::l,none,_,e,_,a=>by
  have k:=e p (by simp);show C3 77<|O7 none (pt p::l.map pt) x;rw[PT];split
  ·exact Aey f l (some p) ah ah (by simp) (Jo a).2.2
  ·exact k.2.mono af
 |p::l,some q,d,e,_,a=>by
  have k:=e p (by simp);have j:=d q rfl;obtain⟨_,_,b,g⟩:=HN a;show C3 77<|O7 (some<|pt q) (pt p::l.map pt) x;rw[Qg];split
  ·exact Aey f l (some p) ah ah (by simp) g
  ·exact(j.2.add<|((k.2.sub j.2).mul<|f.sub j.1).div (k.1.sub j.1)<|Nn b).mono af
theorem Aa4{n:Int}(h:0<=n/\n<=10):C3 2 ((n:Rat)/10):=(Go.Pe.M7 h).z
theorem AfG{ws:List AW}(a:∀w∈ws,C3 4<|Ao w.2):∀ {l:List Ey},(∀o∈l,0<=o.2/\o.2<=10)->C3 (1+7*l.length) (obV ws l)
 |[],_=>uZ
 |o::l,b=>by
  have i:=AfG a (l:=l) ah;rw[P4,Kd,zi];cases d:ws.find? fun w=>decide (w.1=o.1)with
  |none=>
   rw[Rat.zero_mul,Rat.zero_add];exact i.mono ae
  |some w=>exact(((a w ah).mul<|Aa4 ah).add i).mono ae
theorem kW{c:AF}{n:Int}(f:XQ c n 4=true):(∀s∈c.1,IZ s n 4=true)/\(∀l∈c.2.2,EU l n 4=true)/\(c.1.length:Int)<=n:=by
 simp_all [XQ]
theorem AeQ{c:AF}{t h l n:Int}(a:n<=6)(f:XQ c n 4=true)(k:XO c t h l=true):C3 122 (Oo c t h l):=by
 obtain⟨P,L,_,ko,h0,n0⟩:=Go.Pe.Qj k;obtain⟨f1,f2,_⟩:=kW f;have S:=AdG a (f1 (BE c h) (Fb (by have:=P.h0;omega)));have V:=AeJ (f2 (CU c l) (Fb (by have:=L.l0;omega)));have e:=Agc (Ahz S P.te) V.head V.next S.roll h0 n0;obtain⟨h1,_,h3⟩:=Er L.lv.tab;have v:=Aey e (CU c l).2.2.2.1 none (by simp) V.tab (fun _=>h1) h3;have o:=AfG V.wts P.st.obs;exact(v.add o).mono (by have:=S.len;omega)
theorem M9{c:AF}{t l:Int}(h:LD c t l=true):Ki c=true/\N6 c=0/\WV c t=false/\R5 c l=false/\XQ c 6 4=true:=by
 unfold LD at h;grind [Jr,I1]
theorem bO{c:AF}{t l:Int}(h:LD c t l=true){i:Nat}(d:i<c.1.length):XO c t (i:Int) l=true:=by
 obtain⟨s,e,a,b,_⟩:=M9 h;simp_all [XU,Jg,XO,AfL,Jq]
theorem LN{c:AF}{t l:Int}(h:LD c t l=true):c.1.length<=6:=by
 have:=(kW (M9 h).2.2.2.2).2.2;omega
theorem AcL{c:AF}{t l:Int}(h:LD c t l=true){i:Nat}(a:i<c.1.length):C3 122 (Oo c t (i:Int) l):=AeQ af (M9 h).2.2.2.2<|bO h a
theorem rK{q:Rat}{k:Nat}(h:C3 k q):C3 (k+6) (Xf q):=by
 have t:C3 2 (10:Rat):=by unfold C3;simp
 exact((QZ<|(h.mul t).add Mj.z).div t<|by simp).mono ae
theorem Ade{k:Nat}{s:Bf}{q:Rat}(h:Nu k s q)(e:k<=1000):yE s [49,47,49,48]=true/\Afe s [49,47,49,48]=AO (Xf q):=by
 have u:Nu 2 [49,47,49,48] (1/10):=by
  refine⟨by decide+kernel,?_⟩;unfold C3;decide+kernel
 have a:=h.FF u ah;have ad:=a.B0 Mj;have fl:=ad.GG;have b:=fl.DR u;have d:((q/(1/10)+1/2).floor:Rat)*(1/10)=Xf q:=by
  grind [Xf,Aec]
 refine⟨?_,?_⟩
 ·unfold yE;rw[h.num ae,a.num ae,ad.num ae,fl.num ae,u.nz af ah];rfl
 ·show DR (GG<|B0 (FF s [49,47,49,48]) [49,47,50]) [49,47,49,48]=_;rw[b.t,d]
end Go.Sp
namespace Go.Pe
open Sp
open Go.Det
open Go.Sp (AF)
theorem nJ{c:AF}{t l:Int}(h:LD c t l=true){i:Nat}(a:i<c.1.length):RS 122 (Sp.rtF c t (i:Int) l) (Oo c t (i:Int) l):=⟨(AfJ<|bO h a).r,AcL h a⟩
theorem rP{c:AF}{t l:Int}(h:LD c t l=true):∀(k i K:Nat) (f:Ad) (q:Rat),RS K f q->i+k<=c.1.length->K+123*k<=3000->RS (K+123*k) (Sp.suF c t l f i k) (q+Sp.suQ c t l i k)
 |0,i,K,f,q,b,_,_=>by
  show RS K f<|q+0;grind
 |k+1,i,K,f,q,b,e,d=>by
  have a:=b.add (nJ h (i:=i) ae) ae af;have:=rP h k (i+1) _ _ _ a ae ae;grind [Sp.suF,Sp.suQ]
theorem Z5{c:AF}{t l:Int}(h:LD c t l=true):RS 740 (cU c t l) (Sp.exQ c t l):=by
 have n:=LN h;have a:=rP h c.1.length 0 1 Sp.zF 0 IJ ae ae;rw[Rat.zero_add]at a;exact a.mono ae
theorem AcT:RS 1 Sp.hfF (1/2):=by
 refine⟨⟨by decide,by decide,by decide+kernel,by decide+kernel⟩,?_⟩;unfold C3;decide+kernel
theorem Aco{k:Nat}{f:Ad}{q:Rat}(h:RS k f q)(d:k<=3900):yj (B2 f Sp.hfF)=true/\Bg (Sp.rnI f)=true/\Sp.vI (Sp.rnI f)=Aec q:=by
 have a:=h.add AcT ae af;obtain⟨b,c⟩:=eI a.r a.z ae;exact⟨a.Ck ae,b,c⟩
theorem AcH{k:Nat}{f:Ad}{q:Rat}(h:RS k f q)(a:k<=3800):Js (Sp.rnI<|FV f<|Sp.iF 10) (10,BI 10)=true/\RS (k+6) (Sp.teF f) (Xf q):=by
 have t:RS 2 (Sp.iF 10) ((10:Int):Rat):=Hw af af af;have m:=h.mul t ae af;obtain⟨_,b,c⟩:=Aco m ae;obtain⟨b1,b2⟩:=G5 (n:=10) rfl;refine⟨Ab (Ab b b1) (by rfl),?_,rK h.z⟩;have r:=J3 b b1 ae;rw[b2,c,Rat.divInt_eq_div]at r;exact r
section
open List Int Prod
namespace T68
def T[Srt](n:Int):Tr:=tree GK false 9 68<|Ag ([z7 zo]) n
theorem Aj[Srt](n:Int):T n=.leaf (PV.agg [.dat i64 n,.nil]) []:=by kernel_rfl
end T68
namespace T185
def T[Srt](a b:Ad):Tr:=tree Ahr false 9 185<|Ag ([An,An]) (a,b)
theorem Aj[Srt](a b:Ad):T a b=.ck (Sp.CA a&&Sp.CA b) (.leaf (.dat Sh.bool<|Dh a b==0) []):=by kernel_rfl
end T185
namespace T100
def T[Srt](c:AF)(h l:Int):Tr:=tree OI false 9 100<|Ag ([Ba,z7 zo,z7 zo]) (c,h,l)
def L1[Srt](v1 v2:Int)(v3:AF)(o1:List (Rd×Ad))(b a:Int):Tr:=re ((T ([],([],[])) 0 0))<|Ax 66 [(1,.dat i64 v1),(2,.dat i64 v2),(3,PV.A8 Ba v3 0),(6,.ptr 0 0),(7,PV.mp 1)] [(1,Obj.map zu An o1),(0,.box [.dat i64 b,.nil,.dat i64 a,.nil])] 2
theorem Aj[Srt](c:AF)(h l:Int):T c h l=L1 h l c [] 0 0:=by kernel_rfl
def L2[Srt](v1:Int)(v3:AF)(e:List AW)(d b:Int)(o1:List (Rd×Ad))(f a:Int):Tr:=re ((stepT OI<|L1 0 0 ([],([],[])) [] 0 0).L)<|Ax 66 [(1,.dat i64 v1),(3,PV.A8 Ba v3 0),(6,.ptr 0 0),(7,PV.mp 1),(21,.dat (yd B8) e),(22,.dat i64 d),(23,.dat i64 b)] [(1,Obj.map zu An o1),(0,.box [.dat i64 f,.nil,.dat i64 a,.nil])] 2
theorem Ak[Srt](v1 v2:Int)(v3:AF)(o1:List (Rd×Ad))(d a:Int):stepT OI (L1 v1 v2 v3 o1 d a)=let b:=snd<|snd<|snd<|snd<|getD (snd<|snd v3) (toNat v2) ([],[],[],[],[]);.ck (decide (0<=v2)&&decide (v2<(↑(length<|snd<|snd v3):Int))) (L2 v1 v3 b ((↑(length b):Int)) 0 o1 d a):=by kernel_rfl
def L3[Srt](h:List Ey)(g f i:Int)(e:List Int)(a:Int)(d:List Int)(o1:List (Rd×Ad))(j b:Int):Tr:=re ((stepT OI<|L2 0 ([],([],[])) [] 0 0 [] 0 0).R.L.L)<|Ax 66 [(6,.ptr 0 0),(7,PV.mp 1),(10,.ptr 2 0),(40,.dat (yd UK) h),(41,.dat i64 g),(42,.dat i64 f)] [(2,.box [.dat i64 i,.dat wU e,.dat i64 a,.dat wU d]),(1,Obj.map zu An o1),(0,.box [.dat i64 j,.nil,.dat i64 b,.nil])] 3
theorem Az[Srt](v1:Int)(v3:AF)(d:List AW)(e a:Int)(o1:List (Rd×Ad))(f b:Int):stepT OI (L2 v1 v3 d e a o1 f b)=let g:=snd<|snd<|snd<|snd<|getD (fst v3) (toNat v1) ([],[],[],[],[]);let b':=getD d (toNat a) ([],[]);.di (a<e) (.ck (decide (0<=a)&&decide (a<(length d:Int)))<|.ck (DS<|snd b')<|L2 v1 v3 d e (zd .i64<|a+1) (H4 zu An (fst b') (Cw<|snd b') o1) f b) (.ck true<|.ck (decide (0<=v1)&&decide (v1<(↑(length<|fst v3):Int)))<|L3 g ((↑(length g):Int)) 0 0 (BI 0) 1 (BI 1) o1 f b):=by kernel_rfl
def L4[Srt](f:Rd×Int)(i:Ad)(j:List Ey)(h g k:Int)(e:List Int)(a:Int)(d:List Int)(o1:List (Rd×Ad))(m b:Int):Tr:=re ((stepT OI<|L3 [] 0 0 0 [] 0 [] [] 0 0).L.L.R)<|Ax 66 [(6,.ptr 0 0),(7,PV.mp 1),(10,.ptr 2 0),(12,PV.A8 UK f 0),(13,PV.A8 An i 0),(40,.dat (yd UK) j),(41,.dat i64 h),(42,.dat i64 g)] [(2,.box [.dat i64 k,.dat wU e,.dat i64 a,.dat wU d]),(1,Obj.map zu An o1),(0,.box [.dat i64 m,.nil,.dat i64 b,.nil])] 3
theorem Be[Srt](g:List Ey)(h a i:Int)(e:List Int)(b:Int)(d:List Int)(o1:List (Rd×Ad))(j f:Int):stepT OI (L3 g h a i e b d o1 j f)=let b':=getD g (toNat a) ([],0);let k:=EB zu An (fst b') o1;.di (a<h) (.ck (decide (0<=a)&&decide (a<(length g:Int)))<|.ite (!Option.isSome k) (L3 g h (zd .i64<|a+1) i e b d o1 j f)<|L4 b' ((yq k ((0,[]),0,[]))) g h a i e b d o1 j f) (.leaf (PV.agg [.dat i64 i,.dat wU e,.dat i64 b,.dat wU d]) []):=by kernel_rfl
theorem B1[Srt](a:Rd×Int)(g:Ad)(k:List Ey)(j i n:Int)(f:List Int)(b:Int)(e:List Int)(o1:List (Rd×Ad))(o d:Int):stepT OI (L4 a g k j i n f b e o1 o d)=let b':=((n,f),b,e);let m:=SQ (snd a,BI<|snd a) (10,BI 10);let h:=FV g m;.ck true (.ck true<|.ck (Js (snd a,BI<|snd a) (10,BI 10))<|.ck (yj g&&yj m)<|.ck (yj b'&&yj h)<|L3 k j (zd .i64<|i+1) (LG b' h) (Mm b' h) (Mw b' h) (LJ b' h) o1 o d):=by kernel_rfl
end T100
namespace T135
def T[Srt](p:List AW)(x:Ad):Tr:=tree R2 false 9 135<|Ag ([yd B8,An]) (p,x)
def L1[Srt](v0:List AW)(v3:Ad)(b a:Int):Tr:=re ((T [] ((0,[]),(0,[]))))<|Ax 72 [(0,.dat (yd B8) v0),(3,PV.A8 An v3 0),(4,.ptr 0 0)] [(0,.box [.dat i64 b,.nil,.dat i64 a,.nil])] 1
theorem Aj[Srt](p:List AW)(x:Ad):T p x=L1 p x 0 0:=by kernel_rfl
def L2[Srt](v0:List AW)(v3:Ad)(d:List AW)(e b f a:Int):Tr:=re ((stepT R2<|L1 [] ((0,[]),(0,[])) 0 0))<|Ax 72 [(0,.dat (yd B8) v0),(3,PV.A8 An v3 0),(4,.ptr 0 0),(11,.dat (yd B8) d),(12,.dat i64 e),(13,.dat i64 b)] [(0,.box [.dat i64 f,.nil,.dat i64 a,.nil])] 1
theorem Ak[Srt](v0:List AW)(v3:Ad)(b a:Int):stepT R2 (L1 v0 v3 b a)=L2 v0 v3 v0 ((length v0:Int)) 0 b a:=by kernel_rfl
def L3[Srt](v0:List AW)(v3:Ad)(v5:Int)(b d:Ad)(e a:Int):Tr:=re ((stepT R2<|L2 [] ((0,[]),(0,[])) [] 0 0 0 0).L.L.L.L.L.R.R.L.R)<|Ax 72 [(0,.dat (yd B8) v0),(3,PV.A8 An v3 0),(4,.ptr 0 0),(5,.dat i64 v5),(7,PV.A8 An b 0),(8,PV.A8 An d 0)] [(0,.box [.dat i64 e,.nil,.dat i64 a,.nil])] 1
theorem Az[Srt](v0:List AW)(v3:Ad)(d:List AW)(f a i b:Int):stepT R2 (L2 v0 v3 d f a i b)=let e:=getD d (toNat a) ([],[]);let h:=(length v0:Int);let b':=snd<|getD v0 (toNat<|zd .i64<|h-1) ([],[]);let j:Tr:=.leaf (PV.agg [.dat i64<|Sg<|snd e,.dat wU<|Sf<|snd e,.dat i64<|QD<|snd e,.dat wU<|RV<|snd e]) [];let g:=Cw<|fst e;let k:=Sp.CA v3&&Sp.CA g;.di (a<f) (.ck (decide (0<=a)&&decide (a<(length d:Int)))<|.ck (DS<|fst e)<|.ck (DS<|snd e)<|.ck k<|.di (Dh v3 g>0) (L2 v0 v3 d f (zd .i64<|a+1) i b)<|.ite (a==0) j<|.ck k<|.di (Dh v3 g=0) j<|L3 v0 v3 a g ((Cw<|snd e)) i b) (.ck (decide (0<=zd .i64 (h-1))&&decide (zd .i64 (h-1)<h))<|.ck (DS b')<|.leaf (PV.agg [.dat i64<|Sg b',.dat wU<|Sf b',.dat i64<|QD b',.dat wU<|RV b']) []):=by kernel_rfl
def L4[Srt](v3 d e v9 b:Ad)(f a:Int):Tr:=re ((stepT R2<|L3 [] ((0,[]),(0,[])) 0 ((0,[]),(0,[])) ((0,[]),(0,[])) 0 0).L.L.L.L)<|Ax 72 [(3,PV.A8 An v3 0),(4,.ptr 0 0),(7,PV.A8 An d 0),(8,PV.A8 An e 0),(9,PV.A8 An v9 0),(10,PV.A8 An b 0)] [(0,.box [.dat i64 f,.nil,.dat i64 a,.nil])] 1
theorem Be[Srt](v0:List AW)(v3:Ad)(v5:Int)(d e:Ad)(f a:Int):stepT R2 (L3 v0 v3 v5 d e f a)=let b:=getD v0 (toNat<|zd .i64<|v5-1) ([],[]);let b':=decide (0<=zd .i64 (v5-1))&&decide (zd .i64 (v5-1)<(length v0:Int));.ck b' (.ck b'<|.ck (DS<|fst b)<|.ck (DS<|snd b)<|L4 v3 d e ((Cw<|fst b)) ((Cw<|snd b)) f a):=by kernel_rfl
theorem B1[Srt](v3 f e v9 a:Ad)(h b:Int):stepT R2 (L4 v3 f e v9 a h b)=let b':=FV (Fu e a)<|Fu v3 v9;let g:=Fu f v9;let d:=KJ b' g;.ck (yj e&&yj a) (.ck (yj v3&&yj v9)<|.ck (yj (Fu e a)&&yj (Fu v3 v9))<|.ck (yj f&&yj v9)<|.ck (yj b'&&yj g&&decide (Sp.vI (fst g)≠0))<|.ck (yj a&&yj d)<|.leaf (PV.agg [.dat i64<|LG a d,.dat wU<|Mm a d,.dat i64<|Mw a d,.dat wU<|LJ a d]) []):=by kernel_rfl
end T135
namespace T70
def T[Srt](c:AF)(t h l:Int):Tr:=tree Ad6 false 9 70<|Ag ([Ba,z7 zo,z7 zo,z7 zo]) (c,t,h,l)
def L1[Srt](v1 v2 v3:Int)(v4:AF)(b a:Int):Tr:=re ((T ([],([],[])) 0 0 0))<|Ax 26 [(1,.dat i64 v1),(2,.dat i64 v2),(3,.dat i64 v3),(4,PV.A8 Ba v4 0),(8,.ptr 0 0)] [(0,.box [.dat i64 b,.nil,.dat i64 a,.nil])] 1
theorem Aj[Srt](c:AF)(t h l:Int):T c t h l=L1 t h l c 0 0:=by kernel_rfl
theorem Ak[Srt](v1 v2 v3:Int)(v4:AF)(e a:Int):stepT Ad6 (L1 v1 v2 v3 v4 e a)=let b':=fst<|snd<|snd<|snd<|getD (snd<|snd v4) (toNat v3) ([],[],[],[],[]);let b:=Sp.obF v4 v2 v3;let d:=Sp.vlF b'<|aQ v4 v1 v2 v3;.ck (decide (0<=v3)&&decide (v3<(↑(length<|snd<|snd v4):Int))) (.ck (XO v4 v1 v2 v3)<|.ck (Sp.okY b'<|aQ v4 v1 v2 v3)<|.ck (Sp.okO v4 v2 v3)<|.ck (yj d&&yj b)<|.leaf (PV.agg [.dat i64<|LG d b,.dat wU<|Mm d b,.dat i64<|Mw d b,.dat wU<|LJ d b]) []):=by kernel_rfl
end T70
namespace T128
def T[Srt](c:AF)(h l:Int):Tr:=tree ON false 9 128<|Ag ([Ba,z7 zo,z7 zo]) (c,h,l)
def L1[Srt](a:Rd)(b:Bs)(v9:Bq):Tr:=re ((T ([],([],[])) 0 0).L.L)<|Ax 66 [(7,.dat zu a),(8,PV.A8 Bw b 0),(9,PV.A8 Bk v9 0)] [] 0
theorem Aj[Srt](c:AF)(h l:Int):T c h l=.ck (decide (0<=h)&&decide (h<(↑(length<|fst c):Int))) (.ck (decide (0<=l)&&decide (l<(↑(length<|snd<|snd c):Int)))<|L1 ([(48:UInt8)]) ((getD (fst c) (toNat h) ([],[],[],[],[])))<|(getD (snd<|snd c) (toNat l) ([],[],[],[],[]))):=by kernel_rfl
def L2[Srt](b:Rd)(d:Bs)(v9:Bq)(a:Int):Tr:=re ((stepT ON<|L1 [] ([],([],([],([],[])))) ([],([],([],([],[]))))))<|Ax 66 [(7,.dat zu b),(8,PV.A8 Bw d 0),(9,PV.A8 Bk v9 0),(10,.dat i64 a)] [] 0
theorem Ak[Srt](a:Rd)(b:Bs)(v9:Bq):stepT ON (L1 a b v9)=L2 a b v9 0:=by kernel_rfl
def L3[Srt](d:Rd)(e:Bs)(v9:Bq)(a b:Int):Tr:=re ((stepT ON<|L2 [] ([],([],([],([],[])))) ([],([],([],([],[])))) 0).L)<|Ax 66 [(7,.dat zu d),(8,PV.A8 Bw e 0),(9,PV.A8 Bk v9 0),(10,.dat i64 a),(11,.dat i64 b)] [] 0
theorem Az[Srt](b:Rd)(d:Bs)(v9:Bq)(a:Int):stepT ON (L2 b d v9 a)=.di (a<(↑(length<|snd<|snd<|snd<|snd d):Int)) (L3 b d v9 a 0) (.leaf (.dat zu b) []):=by kernel_rfl
theorem Be[Srt](d:Rd)(e:Bs)(v9:Bq)(a b:Int):stepT ON (L3 d e v9 a b)=let k:=zd .i64<|b+1;let j:=snd<|snd<|snd<|snd e;let h':=snd<|snd<|snd<|snd v9;let g:=getD j (toNat a) ([],0);let b':=getD h' (toNat b) ([],[]);let f:=decide (b<(↑(length h'):Int));let i:=decide (0<=a)&&decide (a<(↑(length j):Int));let h:=CT (snd g) 10;.ite f (.ck (decide (0<=b)&&f)<|.ck i<|.ite (fst b'==fst g) (.ck (decide (0<=b)&&f)<|.ck i<|.ck (Cn (snd g)&&Cn 10&&decide (10≠0))<|.ck (AU (snd b')&&AU h)<|.ck (AU d&&AU (DR (snd b') h))<|L3 (B0 d<|DR (snd b') h) e v9 a k)<|L3 d e v9 a k) (L2 d e v9<|zd .i64<|a+1):=by kernel_rfl
end T128
end
open Go.Sp (AF Bs Bq AW Ey Bf)
theorem T68.ok[Srt]:Af AY 68 Sc:=by
 refine He (X:=GK) rfl (fun g sp h=>by cases h) (d:=9) ag ag ag (fun(n:Int) _=>?_) (Bd ag);refine zx (T68.Aj n)<|zf<|ya rfl rfl ?_;show(n,([]:List Int))=(n,BI n);rw[Ff]
theorem pE[Srt]:Cv Ahr:=Aa T73.ok AB
theorem T185.ok[Srt]:Af AY 185 sS:=by
 refine BA pE<|fun(i:Ad×Ad) hi=>?_;exact zx (T185.Aj i.1 i.2)<|zc hi<|zf<|ya rfl rfl rfl
theorem tP[Srt]:Cv OI:=Aa T96.ok<|Aa T57.ok<|Aa T68.ok<|Aa T120.ok<|Aa T65.ok<|Aa T59.ok AB
def gJ(m:List (Bf×Ad))(ws:List AW):Prop:=∀k:Bf,EB .str An k m=(ws.find? fun w=>decide (w.1=k)).map fun w=>Cw w.2
theorem gJ.add{m:List (Bf×Ad)}{ws:List AW}(h:gJ m ws)(w:AW)(b:∀v∈ws,v.1≠w.1):gJ (H4 .str An w.1 (Cw w.2) m) (ws++[w]):=fun k=>by
 have e:=Ht (v:=An) k w.1 (Cw w.2) m;rw[e,List.find?_append];by_cases c:k=w.1
 ·rw[wd c,List.find?_eq_none.2 (fun v a=>by rw[c];simpa using b v a),List.find?_cons,w4 c.symm];rfl
 ·rw[wc c,h k,List.find?_cons,w8<|fun x=>c x.symm];cases ws.find? fun w=>decide (w.1=k)<;>rfl
namespace T100
theorem Dx[Srt]{v1:Int}{v3:AF}{u g:Int}(ws:List AW)(k:ws.length<=16)(o:∀w∈ws,Ap w.2=0)(a:(ws.map Prod.fst).Nodup)(f:0<=v1/\v1<(v3.1.length:Int))(n:∀m,gJ m ws->Ends OI (L3 (BE v3 v1).2.2.2.2 ((BE v3 v1).2.2.2.2.length:Int) 0 0 (BI 0) 1 (BI 1) m u g) Q):∀(r:List AW) (i:Nat) (m:List (Bf×Ad)) (d:List AW),ws.drop i=r->i<=ws.length->ws=d++r->gJ m d->Ends OI (L2 v1 v3 ws (ws.length:Int) (i:Int) m u g) Q
 |[],i,m,d,h,q,b,j=>by
  have:=drop_nil h q;rw[List.append_nil]at b;rw[<-b]at j;exact zg (Az ..) (zj (w8 ae)<|zc rfl (zc (G8 f)<|n m j))
 |p::r,i,m,d,h,q,b,j=>by
  obtain⟨x,B,z⟩:=drop_cons (d:=(([],[]):AW)) h;have C:=wn (i:=i) ae;have y:=o p (zn (by rw[h];exact zk ..));refine zg (Az ..) ?_;conv=>zeta
  rw[ze,B,C];refine zc (w4 ae) (zc (G8 ae)<|zc (Eb y) ?_);refine Dx ws k o a f n r (i+1) _ (d++[p]) z x (by rw[b,List.append_assoc];rfl)<|j.add p fun v A e=>?_;rw[b,yn,List.nodup_append]at a;exact a.2.2 v.1 (yv.2 ⟨v,A,rfl⟩) p.1 (by rw[List.map_cons];exact zk ..) e
theorem Dk[Srt]{H v:Int}{m:List (Bf×Ad)}(ws:List AW)(x:∀w∈ws,RS 20 (Cw w.2)<|Ao w.2)(p:gJ m ws)(l:List Ey)(b:l.length<=16)(u:∀o∈l,0<=o.2/\o.2<=10)(F:Ad)(k:∀ob,Q (.agg [.dat i64 F.1.1,.dat (.nlist u64) F.1.2,.dat i64 F.2.1,.dat (.nlist u64) F.2.2]) ob):∀(r:List Ey) (i K:Nat) (f:Ad) (q:Rat),l.drop i=r->i<=l.length->RS K f q->K+23*r.length<=4000->Wi ws f r=F->Ends OI (L3 l (l.length:Int) (i:Int) f.1.1 f.1.2 f.2.1 f.2.2 m H v) Q
 |[],i,K,f,q,h,D,j,C,e=>by
  have:=drop_nil h D;have e:f=F:=e;rw[<-e]at k;exact zg (Be ..) (zj (w8 ae)<|zf<|k _)
 |o::r,i,K,f,q,h,D,j,C,e=>by
  obtain⟨B,G,A⟩:=drop_cons (d:=(([],0):Ey)) h;have E:=wn (i:=i) ae;have I:=u o (zn<|by rw[h];exact zk ..);rw[zi]at C;refine zg (Be ..) ?_;conv=>zeta
  rw[ze,G,E,p o.1];refine zc (w4 ae) (zc (G8 ae) ?_);rw[Wi]at e;cases a:ws.find? fun w=>decide (w.1=o.1)with
  |none=>
   rw[a]at e;exact zc rfl (Dk ws x p l b u F k r (i+1) K f q A B j ae e)
  |some w=>
   rw[a]at e;have e:Wi ws (B2 f<|FV (Cw w.2)<|SQ (o.2,BI o.2) (10,BI 10)) r=F:=e;have g:=x w<|List.mem_of_find?_eq_some a;have t:=M7 I;have z:=g.mul t af af;have y:=j.add z ae af;have n1:Cn o.2=true:=ad ae ae;have mk:Js (o.2,BI o.2) (10,BI 10)=true:=Ab (Ab (G5 n1).1 (G5 (n:=10) rfl).1) (w4<|by rw[(G5 (n:=10) rfl).2];decide);refine zj rfl (zg (B1 ..)<|zc rfl (zc rfl (zc mk<|zc (g.PA t af af)<|zc (j.PA z ae af) ?_)));rw[E];exact Dk ws x p l b u F k r (i+1) _ (B2 f<|FV (Cw w.2)<|SQ (o.2,BI o.2) (10,BI 10)) _ A B y ae e
theorem ok[Srt]:Af AY 100 cOb:=by
 refine BA tP<|fun(i:AF×Int×Int) hi=>?_;obtain⟨c,h,l⟩:=i;obtain⟨L,h0,S,_⟩:=No (c:=c) (h:=h) (l:=l) hi;refine zx (Aj c h l)<|zg (Ak ..)<|zc (G8 L.l0) ?_;refine Dx (CU c l).2.2.2.2 L.lv.wlen (fun w b=>(L.lv.wts w b).1) L.lv.one h0 (fun m a=>?_) (CU c l).2.2.2.2 0 [] [] rfl (zt _) rfl (fun k=>rfl);exact Dk (CU c l).2.2.2.2 L.lr.wts a (BE c h).2.2.2.2 S.len S.obs (Sp.obF c h l) (fun ob=>ya rfl rfl rfl) (BE c h).2.2.2.2 0 1 Sp.zF 0 rfl (zt _) IJ (by have:=S.len;omega) rfl
end T100
theorem pV[Srt]:Cv R2:=Aa T96.ok<|Aa T73.ok<|Aa T185.ok<|Aa T59.ok<|Aa T64.ok<|Aa T65.ok<|Aa T97.ok AB
theorem oW(o:Option AW)(p:AW)(l:List AW)(x:Ad):wP o (p::l) x=if Dh x (Cw p.1)>0 then wP (some p) l x else match o with
  |none=>Cw p.2
  |some q=>if Dh x (Cw p.1)=0 then Cw p.2 else B2 (Cw q.2) (KJ (FV (Fu (Cw p.2)<|Cw q.2)<|Fu x<|Cw q.1)<|Fu (Cw p.1)<|Cw q.1):=by
 cases o<;>rw[wP]
namespace T135
theorem loop[Srt]{K v:Int}(t:List AW)(C:t.length<=64)(g:t≠[])(D:∀p∈t,p.1.length<=20/\p.2.length<=20)(x:Ad)(X:Rat)(k:RS 300 x X)(F:Ad)(f:∀ob,Q (.agg [.dat i64 F.1.1,.dat (.nlist u64) F.1.2,.dat i64 F.2.1,.dat (.nlist u64) F.2.2]) ob):∀(r:List AW) (i:Nat) (o:Option AW),t.drop i=r->i<=t.length->(o=none->i=0)->(∀q,o=some q->1<=i/\t.getD (i-1) ([],[])=q/\Ap q.1=0/\Ap q.2=0/\q.1.length<=20/\q.2.length<=20)->Dz o r=0->wP o r x=F->Ends R2 (L2 t x t (t.length:Int) (i:Int) K v) Q
 |[],i,o,h,I,h0,B,n,e=>by
  have V:=drop_nil h I;cases o with
  |none=>
   have:=h0 rfl;exact wh (List.eq_nil_of_length_eq_zero ae) g
  |some q=>
   obtain⟨m,j,_,O,_,_⟩:=B q rfl;have e:Cw q.2=F:=e;have w:zd .i64 ((t.length:Int)-1)=((i-1:Nat):Int):=by rw[wr _ ae ae];omega
   refine zg (Az ..) (zj (w8 ae) ?_);rw[w,ze,j];rw[<-e]at f;exact zc (G8 ae)<|zc (Eb O)<|zf<|f _
 |p::r,i,o,h,I,h0,B,n,e=>by
  obtain⟨S,J,P⟩:=drop_cons (d:=(([],[]):AW)) h;have U:=wn (i:=i) ae;obtain⟨l1,l2⟩:=D p (zn<|by rw[h];exact zk ..);have M:Ap p.1=0/\Ap p.2=0/\Dz (some p) r=0:=by
   cases o with
   |none=>exact Jo n
   |some q=>obtain⟨a,b,_,c⟩:=HN n;exact⟨a,b,c⟩
  obtain⟨m,j,R⟩:=M;have u:=Ej m l1 af;have E:=Ej j l2 af;rw[oW]at e;refine zg (Az ..) ?_;conv=>zeta
  rw[ze,J,U];refine zc (w4 ae) (zc (G8 ae)<|zc (Eb m)<|zc (Eb j)<|zc (Ab (k.CA af)<|u.CA af)<|zh (fun c=>?_)<|fun c=>?_)
  ·rw[wd<|w6 c]at e;exact loop t C g D x X k F f r (i+1) (some p) P S (fun y=>by cases y) (fun q y=>by cases y;exact⟨by omega,by rw[Nat.add_sub_cancel];exact J,m,j,l1,l2⟩) R e
  ·rw[wc<|w7 c]at e;cases o with
   |none=>
    have z:=h0 rfl;have e:Cw p.2=F:=e;rw[<-e]at f;exact zc (by rw[z];rfl)<|zf<|f _
   |some q=>
    obtain⟨W,T,G,H,N,L⟩:=B q rfl;have q1:=Ej G N af;have A:=Ej H L af;obtain⟨_,_,hlt,_⟩:=HN n;have e:(if Dh x (Cw p.1)=0 then Cw p.2 else B2 (Cw q.2)<|KJ (FV (Fu (Cw p.2)<|Cw q.2)<|Fu x<|Cw q.1)<|Fu (Cw p.1)<|Cw q.1)=F:=e;refine zj (by simp;omega) (zc (Ab (k.CA af)<|u.CA af)<|zh (fun d=>?_)<|fun d=>?_)
    ·rw[wd<|w6 d]at e;rw[<-e]at f;exact zf<|f _
    ·rw[wc<|w7 d]at e;rw[<-e]at f;have w:zd .i64 ((i:Int)-1)=((i-1:Nat):Int):=by rw[wr _ ae ae];omega
     have s1:=E.sub A af af;have s2:=k.sub q1 af af;have s3:=s1.mul s2 af af;have s4:=u.sub q1 af af;have s5:=s3.div s4 af af<|Nn hlt;refine zg (Be ..) ?_;conv=>zeta
     rw[w,ze,T];refine zc (G8 ae) (zc (G8 ae)<|zc (Eb G)<|zc (Eb H) (zg (B1 ..)<|zc (E.PA A af af)<|zc (k.PA q1 af af)<|zc (s1.PA s2 af af)<|zc (u.PA q1 af af)<|zc (s3.ok3 s4 af af<|Nn hlt)<|zc (A.PA s5 af af)<|zf<|f _))
theorem ok[Srt]:Af AY 135 AgY:=by
 refine BA pV<|fun(i:List AW×Ad) hi=>?_;obtain⟨t,x⟩:=i;obtain⟨ht,hl,X,hx⟩:=AeI (t:=t) (x:=x) hi;obtain⟨hne,h64,h0⟩:=Er ht;refine zx (Aj t x)<|zg (Ak ..) ?_;exact loop t h64 hne hl x X hx (Sp.vlF t x) (fun ob=>ya rfl rfl rfl) t 0 none rfl (zt _) (fun _=>rfl) (fun q y=>by cases y) h0 rfl
end T135
theorem kJ[Srt]:Cv Ad6:=Aa T99.ok<|Aa T100.ok<|Aa T135.ok<|Aa T59.ok AB
theorem T70.ok[Srt]:Af AY 70 cRt:=by
 refine BA kJ<|fun(i:AF×Int×Int×Int) hi=>?_;obtain⟨c,t,h,l⟩:=i;obtain⟨P,L,kp,ko,h0,n0⟩:=Qj (c:=c) (t:=t) (h:=h) (l:=l) hi;have a:=pP (c:=c) (t:=t) (h:=h) (l:=l) hi;have v:=uU a af L.lv.tab L.ls.tab;have o:=Zx ko;have b:Sp.okY (CU c l).2.2.2.1 (aQ c t h l)=true:=Aet ⟨L.lv.tab,L.ls.tab,_,a.mono af⟩;exact zx (T70.Aj c t h l) (zg (T70.Ak ..) (zc (G8 L.l0)<|zc hi<|zc b<|zc ko<|zc (v.PA o af af)<|zf<|ya rfl rfl rfl))
theorem oB[Srt]:Cv QK:=Aa T70.ok<|Aa T57.ok<|Aa T59.ok AB
namespace T55
theorem loop[Srt]{c:AF}{t l:Int}(h:LD c t l=true)(b:∀ob,Q (.agg [.dat i64 (cU c t l).1.1,.dat (.nlist u64) (cU c t l).1.2,.dat i64 (cU c t l).2.1,.dat (.nlist u64) (cU c t l).2.2]) ob):∀(k i K:Nat) (f:Ad) (q:Rat),i+k=c.1.length->RS K f q->K+123*k<=3000->Sp.suF c t l f i k=cU c t l->Ends QK (L2 c t l (c.1.length:Int) (i:Int) l t c.1 c.2.1 c.2.2 f.1.1 f.1.2 f.2.1 f.2.2 0 0 c.1 c.2.1 c.2.2) Q
 |0,i,K,f,q,g,a,d,e=>by
  have e:f=cU c t l:=e;simp_all [zg,Az]
 |k+1,i,K,f,q,g,a,d,e=>by
  have n:=LN h;have j:zd .i64 ((i:Int)+1)=((i+1:Nat):Int):=by grind [wr]
  have r:=nJ h (i:=i) ae;refine zg (Az ..) ?_;conv=>zeta
  rw[j];exact zc ah (zc (bO h ae) (zc (a.PA r ae af)<|loop h b k (i+1) _ (B2 f<|Sp.rtF c t (i:Int) l) _ ae (a.add r ae af) ae e))
theorem ok[Srt]:Af AY 55 cEx:=by
 refine BA oB<|fun(i:AF×Int×Int) h=>?_;obtain⟨c,t,l⟩:=i;have h:LD c t l=true:=h;have n:=LN h;have e:∀(a b:Int) (d:List Bs) (f:List B7) (g:List Bq),L1 c t l a b l t d f g 0 (BI 0) 1 (BI 1) 0 0 d f g=L2 c t l a b l t d f g 0 (BI 0) 1 (BI 1) 0 0 d f g:=fun a b d f g=>by kernel_rfl
 refine zx (Aj c t l)<|zc rfl ?_;rw[e];exact loop h (fun ob=>ya rfl rfl rfl) c.1.length 0 1 Sp.zF 0 ae IJ ae rfl
end T55
theorem oD[Srt]:Cv Af6:=Aa T68.ok<|Aa T59.ok<|Aa T132.ok AB
theorem T66.ok[Srt]:Af AY 66 Ac0:=by
 refine BA oD<|fun(a:Ad) ha=>?_;obtain⟨q,h⟩:=Ad7 ha;exact zx (T66.Aj a) (zc rfl (zc rfl (zc (h.PA AcT af af)<|zc (Aco h af).1<|zf<|ya rfl rfl rfl)))
theorem wG[Srt]:Cv AgL:=Aa T57.ok (by grind [Aa,T65.ok,T66.ok,T68.ok,T120.ok,Md])
theorem T56.ok[Srt]:Af AY 56 Ago:=by
 refine BA wG<|fun(a:Ad) ha=>?_;obtain⟨q,h⟩:=Ae9 ha;have t:RS 2 (Sp.iF 10) ((10:Int):Rat):=Hw af af af;have m:=h.mul t af af;exact zx (T56.Aj a) (zc rfl (zc (h.PA t af af)<|zc (Aez ⟨_,m.mono af⟩)<|zc rfl (zc (AcH h af).1<|zf<|ya rfl rfl rfl)))
theorem Ajd(c:AF)(t l:Int):U8 c [(t,Sp.nTe c),(l,Sp.nLv c)]=I1 c t l:=by
 unfold U8 WG I1 WV R5;rw[yy,yy,List.any_nil,Bool.or_false];rfl
theorem cR{c:AF}(h:X9 c=true):Ki c=true/\∀t l,I1 c t l=0->LD c t l=true:=by
 unfold X9 at h;grind [Jr,LD,I1]
open Go.Sp (AF Ad)
def MM(s:List Int):List Ad:=s.map fun n=>((n,BI n),1,BI 1)
theorem DE{s:List Int}(h:K8 s=0):s≠[]/\s.length<=256/\(∀n∈s,1<=n/\n<=999999999):=by
 unfold K8 at h;split at h
 ·cases h
 split at h
 ·cases h
 split at h
 ·cases h
 rename_i b e a;refine⟨b,by omega,fun n d=>?_⟩;have a:s.any JC=false:=by simpa using a
 have:=List.any_eq_false.1 a n d;unfold JC at this;simp only[Bool.or_eq_true,w5]at this;omega
theorem lJ{s:List Int}(h:K8 s=0):∀x∈MM s,RS 9 x (La x):=fun x b=>by
 obtain⟨n,a,rfl⟩:=yv.1 b;have:=(DE h).2.2 n a;have r:RS 9 ((n,BI n),1,BI 1) (n:Rat):=Hw ae af af;rw[<-r.val];exact r
theorem aS{s:List Int}(h:K8 s=0):(MM s).map La=s.map fun(n:Int)=>(n:Rat):=by
 unfold MM;rw[List.map_map];refine List.map_congr_left fun n a=>?_
 have:=(DE h).2.2 n a;have r:RS 9 ((n,BI n),1,BI 1) (n:Rat):=Hw ae af af;exact r.val.symm
theorem Wz(s:List Int)(b:Bool):qc [BJ (s.length:Int) 256,Cb b 3]=if s=[]then 12 else if 256<s.length then 5 else if b=true then 3 else 0:=by
 cases s with
 |nil=>rfl
 |cons x s=>
  rw[wc<|fun e=>by cases e];have n0:¬(((x::s).length:Nat):Int)=0:=by rw[zi];omega
  by_cases h:256<(x::s).length
  ·have c:BJ (((x::s).length:Nat):Int) 256=5:=by unfold BJ;rw[wc n0,wd ae]
   rw[c,wd h];rfl
  ·have c:BJ (((x::s).length:Nat):Int) 256=0:=by unfold BJ;rw[wc n0,wc ae]
   rw[c,wc h];cases b<;>rfl
theorem vF:Cv JS:=Aa T52.ok<|Aa T53.ok<|Aa T51.ok<|Aa T90.ok<|Aa T91.ok<|Aa T60.ok<|Aa T57.ok<|Aa T92.ok<|Aa T55.ok<|Aa T56.ok<|Aa T64.ok<|Aa T54.ok AB
namespace T34
variable {Q:PV->Ob->Prop}{c:AF}{t l:Int}{s:List Int}
theorem fin(h:LD c t l=true)(k:K8 s=0)(i:∀ob,Q (.tup [.dat .str<|Xq c t l s,.dat i64<|W2 c t l s]) ob):Ends JS (L5 t l c<|MM s) Q:=by
 obtain⟨j,s1,_⟩:=DE k;have fl:(MM s).length=s.length:=yf ..;have n0:0<(MM s).length:=by rw[fl];exact ye.2 j
 have a:=lJ k;have m:=AcD (K:=9) af n0 a;have g:qC (MM s)=true:=xC ⟨ye.1 n0,by omega,fun x o=>⟨_,(a x o).mono af⟩⟩;rw[aS k]at m;have m:RS 20 ((oQ<|MM s,vX<|MM s),sD<|MM s,lR<|MM s) (vZ s):=m;have x:=Z5 h;have u:=(AcH x af).2;have d:=m.sub u af af;have f:GQ c t l s=0:=by
  unfold GQ;rw[wc (by rw[show I1 c t l=0 from w6 ((zl _ _).mp ((zl _ _).mp h).1).2];decide),k]
 have e:=AfQ d f;have e:(Qr<|Fu ((oQ<|MM s,vX<|MM s),sD<|MM s,lR<|MM s)<|Sp.teF<|cU c t l,Q0<|Fu ((oQ<|MM s,vX<|MM s),sD<|MM s,lR<|MM s)<|Sp.teF<|cU c t l)=(Xq c t l s,W2 c t l s):=e;obtain⟨n,b⟩:=Prod.mk.inj e;refine zg (D0 ..) ?_;conv=>zeta
 rw[n,b];exact zc g (zc h<|zc (Aex ⟨_,x.mono af⟩)<|zc (m.PA u af af)<|zc (d.CA af)<|zf<|i _)
theorem loop(f:s.length<=256)(b:Ends JS (L5 t l c<|MM s) Q):∀(k i:Nat),i+k=s.length->Ends JS (L4 t l c i s (s.length:Int) (i:Int)<|MM<|s.take i) Q
 |0,i,a=>by
  have a:i=s.length:=a;subst a;refine zg (B1 ..) (zj (w8 ae) ?_);rw[zm,yw<|by unfold MM;rw[yf];exact yx _];exact b
 |k+1,i,a=>by
  have g:=wn (i:=i) ae;have nx:=loop f b k (i+1) ae;have d:i<s.length:=ae
  have fl:(MM<|s.take i).length=i:=by unfold MM;rw[yf,ym];omega
  have e:MM (s.take<|i+1)=MM (s.take i)++[((s.getD i 0,BI<|s.getD i 0),1,BI 1)]:=by
   unfold MM;rw[yb d,yn,zr,zw d];rfl
  rw[e]at nx;refine zg (B1 ..) ?_;conv=>zeta
  rw[ze,g];exact zc (w4 ae) (zc (G8 ae) (zc rfl (zc (Ab (Ab rfl (w4 fl.symm))<|w4 ae) nx)))
theorem start(h:LD c t l=true)(k:K8 s=0)(d:∀ob,Q (.tup [.dat .str<|Xq c t l s,.dat i64<|W2 c t l s]) ob):Ends JS (L3 t l c s (s.length:Int) 0) Q:=by
 obtain⟨a,s1,_⟩:=DE k;have n0:0<s.length:=ye.2 a;have lp:=loop (t:=t) (l:=l) (c:=c) s1 (fin h k d) (s.length-1) 1 ae;have b:MM (s.take 1)=[((s.getD 0 0,BI<|s.getD 0 0),1,BI 1)]:=by
  cases s with
  |nil=>exact wh rfl a
  |cons x s=>rfl
 rw[b]at lp;exact zg (Be ..) (zc (w4 ae)<|zc (G8 ae)<|zc rfl (zc rfl lp))
theorem find(h:LD c t l=true)(A:s.length<=1000000)(p:∀ob,Q (.tup [.dat .str<|Xq c t l s,.dat i64<|W2 c t l s]) ob)(k:K8 s≠0->∀ob,Q (.tup [.dat .str [],.dat i64<|K8 s]) ob):∀(r:List Int) (i:Nat),s.drop i=r->i<=s.length->(∀n∈s.take i,JC n=false)->Ends JS (L2 t l s c s (s.length:Int) (i:Int)) Q:=by
 have yes:∀i:Nat,s.any JC=true->qc [BJ (s.length:Int) 256,Cb (decide ((i:Int)>=0)) 3]=K8 s/\K8 s≠0:=fun i b=>by
  rw[Wz,w4 ae];unfold K8;rw[wd b];refine⟨rfl,?_⟩;split
  ·decide
  ·split<;>decide
 intro r;induction r with
 |nil=>
  intro i hr m f;have:=drop_nil hr m;have b:s.any JC=false:=List.any_eq_false.2 fun n a=>by
   rw[this,zm]at f;rw[f n a];decide
  have e:qc [BJ (s.length:Int) 256,Cb false 3]=K8 s:=by
   rw[Wz];unfold K8;rw[b]
  refine zg (Az ..) (zj (w8 ae)<|zc rfl (zc rfl (zc rfl ?_)));rw[e];refine zh (fun z=>zf<|k (by simpa using z) _) (fun z=>start h (by simpa using z) p)
 |cons x r q=>
  intro i hr m f;obtain⟨g,j,w⟩:=drop_cons (d:=(0:Int)) hr;have y:=wn (i:=i) ae;have v:x∈s:=zn (by rw[hr];exact zk);refine zg (Az ..) (zc (w4 ae) (zc (G8 ae) ?_));rw[ze,j,y];have bad:JC x=true->Ends JS (.ite true (.ite true (.ite (decide (2<=2)&&true&&decide (2<=1000000)) (.ite (qc [BJ (s.length:Int) 256,Cb (decide ((i:Int)>=0)) 3] !=0) (.leaf (.tup [.dat .str [],.dat i64<|qc [BJ (s.length:Int) 256,Cb (decide ((i:Int)>=0)) 3]]) [])<|L3 t l c s (s.length:Int) 0) .fail) .fail) .fail) Q:=fun b=>by
   obtain⟨u,o⟩:=yes i<|List.any_eq_true.2 ⟨x,v,b⟩;rw[u];exact zc rfl (zc rfl (zc rfl (zc (by simpa using o)<|zf<|k o _)))
  refine zh (fun z=>bad ?_)<|fun z=>zh (fun z2=>bad ?_)<|fun z2=>q (i+1) w g fun n a=>?_
  ·unfold JC;rw[z];rfl
  ·have z2:decide (999999999<x)=true:=z2;unfold JC;rw[z2,y8]
  ·have z2:decide (999999999<x)=false:=z2;have z:decide (x<1)=false:=z;rw[yb g]at a;rcases List.mem_append.1 a with a|a
   ·exact f n a
   ·have:s[i]=x:=by
     rw[zr,zw g]at j;exact j
    rw[List.mem_singleton.1 a,this];unfold JC;rw[z,z2];rfl
theorem ok:Af AY 34 pR:=by
 refine BA vF<|fun(i:AF×Int×Int×List Int) a=>?_;obtain⟨c,t,l,s⟩:=i;have a:(X9 c&&decide (s.length<=1000000))=true:=a;rw[zl,w5]at a;obtain⟨a,hs⟩:=a;obtain⟨sh,ok⟩:=cR (c:=c) a;refine zx (Aj c t l s) ?_;conv=>zeta
 rw[Ajd];refine zc rfl (zc rfl (zc (Ab rfl (Ab sh rfl))<|zh (fun k=>zf<|ya rfl rfl ?_)<|fun k=>zg (Ak ..) ?_))
 ·have k:I1 c t l≠0:=by simpa using k
  show(([]:Bf),I1 c t l)=(Xq c t l s,W2 c t l s);have e:GQ c t l s=I1 c t l:=by unfold GQ;rw[wd k]
  unfold Xq W2 sM pU;rw[e,wd k,wd k]
 ·have k:I1 c t l=0:=by simpa using k
  refine find (ok t l k) hs (fun ob=>ya rfl rfl rfl) (fun z ob=>ya rfl rfl ?_) s 0 rfl (zt _) (fun n b=>by simp at b);show(([]:Bf),K8 s)=(Xq c t l s,W2 c t l s);have e:GQ c t l s=K8 s:=by unfold GQ;rw[wc<|by rw[k];decide]
  unfold Xq W2 sM pU;rw[e,wd z,wd z]
end T34
section
open List Int Prod
namespace T94
def T(l:List Rd):Tr:=tree N3 false 9 94<|Ag ([yd zu]) l
def L1(v0:List Rd)(v4:Int):Tr:=re ((T []))<|Ax 62 [(0,.dat (yd zu) v0),(3,.nil),(4,.dat i64 v4)] [] 0
theorem Aj(l:List Rd):T l=L1 l 0:=by kernel_rfl
def L2(v0:List Rd)(v4 v5:Int):Tr:=re ((stepT N3<|L1 [] 0).L)<|Ax 62 [(0,.dat (yd zu) v0),(3,.nil),(4,.dat i64 v4),(5,.dat i64 v5)] [] 0
theorem Ak(v0:List Rd)(v4:Int):stepT N3 (L1 v0 v4)=.di (v4<(length v0:Int)) (L2 v0 v4 0) (.ck true .fail):=by kernel_rfl
def L3(v0:List Rd)(a:Nat)(v4:Int)(b:List Rd):Tr:=re ((stepT N3<|L2 [] 0 0).R.L.L.L.L.L.L)<|Ax 62 [(0,.dat (yd zu) v0),(3,.sl 0 1 0 a none),(4,.dat i64 v4)] [(0,.arr false 39 zu b)] 1
theorem Az(v0:List Rd)(v4 v5:Int):stepT N3 (L2 v0 v4 v5)=.di (v5>0) .fail (.ck (decide (0<=v5)&&decide (0<=toNat v5)&&decide (toNat v5<=0))<|.ck (decide (0<=v4)&&decide (v4<(length v0:Int)))<|.ck (decide (0<=v5)&&true&&decide (toNat v5<=0)&&true)<|.ck true<|.ck (decide (1<=1)&&true&&true&&decide ((3*(0+1)+2000)*16<=562949953421312))<|.ck (decide (zq 0 1=length ([]++[]++[getD v0 (toNat v4) []]))&&decide ((3*zq 0 1+2000)*16<=562949953421312))<|L3 v0 1 (zd .i64<|v4+1)<|[]++[]++[getD v0 (toNat v4) []]++[]):=by kernel_rfl
def L4(v0:List Rd)(a:Nat)(v4 v5:Int)(b:List Rd):Tr:=re ((stepT N3<|L3 [] 0 0 []).L)<|Ax 62 [(0,.dat (yd zu) v0),(3,.sl 0 1 0 a none),(4,.dat i64 v4),(5,.dat i64 v5)] [(0,.arr false 39 zu b)] 1
theorem Be(v0:List Rd)(a:Nat)(v4:Int)(b:List Rd):stepT N3 (L3 v0 a v4 b)=let e:=Int.tdiv (zd .i64<|(↑a:Int)-1) 2;let d:=Int.tdiv (↑a:Int) 2;let b':=getD b (toNat<|zd .i64 d) [];let f:=getD b (toNat<|zd .i64 e) [];.di (v4<(length v0:Int)) (L4 v0 a v4 ((↑a:Int)) b) (.ck true<|.ck (decide (0<=zd .i64 e)&&decide (zd .i64 e<(↑a:Int)))<|.cd (toNat (zd .i64 e)<length b)<|.ck true<|.ck (decide (0<=zd .i64 d)&&decide (zd .i64 d<(↑a:Int)))<|.cd (toNat (zd .i64 d)<length b)<|.ck (AU f&&AU b')<|.ck (AU<|B0 f b')<|.leaf (.dat zu<|uN<|B0 f b') []):=by kernel_rfl
theorem B1(v0:List Rd)(a:Nat)(v4 v5:Int)(b:List Rd):stepT N3 (L4 v0 a v4 v5 b)=let b':=length<|take (toNat v5) b;let d:=zd .i64<|v5-1;let j:=decide (yq none a<=yq none a);let i:=decide (0<=v4)&&decide (v4<(length v0:Int));let h:=drop (zq 0<|toNat v5) b;let f:=qd a<|toNat v5;let e:=take f h;let h':=zq 0 b';let g:Tr:=.ck (decide (0<=v5)&&true&&decide (0<=toNat v5)&&decide (toNat v5<=yq none a)&&j&&true)<|.ck i<|.ck (decide (0<=v5)&&true&&true&&decide (toNat v5<=a)&&decide (a<=yq none a)&&j&&true)<|.ck (decide (0+toNat v5<=length b)&&true&&true&&decide ((3*(0+length (take (toNat v5) b))+2000)*16<=562949953421312))<|.ck (decide (1<=1)&&true&&decide (zq 0 b'=length ([]++take (toNat v5) b))&&decide ((3*(zq 0 b'+1)+2000)*16<=562949953421312))<|.ck (decide (zq 0 (toNat v5)+qd a (toNat v5)<=length b)&&true&&decide (zq h' 1=length ([]++take (toNat v5) b++[getD v0 (toNat v4) []]))&&decide ((3*(zq h' 1+length e)+2000)*16<=562949953421312))<|L3 v0 (zq (zq h' 1)<|length e) (zd .i64<|v4+1)<|[]++take (toNat v5) b++[getD v0 (toNat v4) []]++take f h;.di (v5>0) (.ck (decide (0<=zd .i64 (v5-1))&&decide (zd .i64 (v5-1)<(↑a:Int)))<|.cd (toNat d<length b)<|.ck i<|.ck (AU (getD b (toNat d) [])&&C0 (getD v0 (toNat v4) []))<|.di (Eu (getD b (toNat d) []) (getD v0 (toNat v4) [])>0) (L4 v0 a v4 d b) g) g:=by kernel_rfl
end T94
end
open Go.Sp (Bf)
theorem sJ:Cv AfS:=Aa T74.ok AB
theorem T157.ok:Af AY 157 AcJ:=by
 refine BA sJ<|fun(a:Rd) ha=>?_;exact zx (T157.Aj a) (zc (Ab ha<|Mj.num af)<|zf<|ya rfl rfl rfl)
theorem rU:Cv N3:=Aa T32.ok<|Aa T30.ok<|Aa T157.ok AB
structure Ins(l:List Bf)(i:Nat)(u:List Bf):Prop where
 p:u.Perm (l.take i)
 s:(u.map Ao).Pairwise fun a b=>a<=b
theorem Ins.len{l:List Bf}{i:Nat}{u:List Bf}(h:Ins l i u)(a:i<=l.length):u.length=i:=by
 rw[h.p.length_eq,ym];omega
theorem Ins.step{l:List Bf}{i:Nat}{u:List Bf}(h:Ins l i u){x:Bf}{r:List Bf}(n:l.drop i=x::r){k:Nat}(A:k<=u.length)(lo:k=0\/Ao (u.getD (k-1) [])<=Ao x)(z:∀j,k<=j->j<u.length->Ao x<Ao (u.getD j [])):Ins l (i+1) (u.take k++x::u.drop k):=by
 refine⟨?_,?_⟩
 ·obtain⟨o,_,_⟩:=drop_cons (d:=([]:Bf)) n;have e:l.take (i+1)=l.take i++[x]:=by
   have:=yk i l;rw[n]at this;have v:l[i]=x:=by
    have:=yg o;rw[n]at this;exact(List.cons.inj this).1.symm
   rw[yb o,v]
  rw[e];refine List.perm_middle.trans ?_;rw[yk];exact(h.p.cons x).trans (List.perm_append_singleton x _).symm
 ·have s:=h.s;rw[<-yk k u,yn,List.pairwise_append]at s;obtain⟨s1,s2,s3⟩:=s;rw[yn,List.map_cons,List.pairwise_append,List.pairwise_cons];have up:∀b∈(u.drop k).map Ao,Ao x<b:=fun b f=>by
   obtain⟨y,m,rfl⟩:=yv.1 f;obtain⟨j,hj,rfl⟩:=List.getElem_of_mem m;rw[List.length_drop]at hj;have:=z (k+j) ae ae;rw[zr,zw ae,Option.getD_some]at this;rw[List.getElem_drop];exact this
  have w:∀a∈(u.take k).map Ao,a<=Ao x:=fun a g=>by
   rcases lo with rfl|lo
   ·simp at g
   ·by_cases q:k=0
    ·subst q;simp at g
    refine Rat.le_trans ?_ lo;obtain⟨y,m,rfl⟩:=yv.1 g;obtain⟨j,hj,rfl⟩:=List.getElem_of_mem m;rw[ym]at hj;rw[List.getElem_take,zr,zw ae,Option.getD_some];by_cases e:j=k-1
    ·subst e;exact Rat.le_refl
    ·have:=List.pairwise_iff_getElem.1 h.s j (k-1) (by rw[yf];omega) (by rw[yf];omega) ae;simpa using this
  refine⟨s1,⟨fun b f=>Rat.le_of_lt<|up b f,s2⟩,fun a g b f=>?_⟩;rcases y7.1 f with rfl|f
  ·exact w a g
  ·exact s3 a g b f
namespace T94
variable {Q:PV->Ob->Prop}{l:List Bf}
theorem fin(ok:fI l)(f:∀ob,Q (.dat .str<|yS l) ob){u:List Bf}(h:Ins l l.length u):Ends N3 (L3 l l.length (l.length:Int) u) Q:=by
 obtain⟨l0,l1,v⟩:=ok;have n0:0<l.length:=ye.2 l0;have x:=h.len<|yx _;have hp:u.Perm l:=by have:=h.p;rwa [zm]at this
 have w:zd .i64 (Int.tdiv (zd .i64<|(l.length:Int)-1) 2)=(((l.length-1)/2:Nat):Int):=by
  rw[wr ((l.length:Int)-1) ae ae,show(l.length:Int)-1=((l.length-1:Nat):Int)by omega];show zd .i64 (((l.length-1)/2:Nat):Int)=_;exact wr _ ae ae
 have j:zd .i64 (Int.tdiv (l.length:Int) 2)=((l.length/2:Nat):Int):=by
  show zd .i64 ((l.length/2:Nat):Int)=_;exact wr _ ae ae
 have g:∀k,k<l.length->y9 600 (u.getD k []) ((K5<|l.map Ao).getD k 0):=fun k y=>by
  have d:k<u.length:=ae
  have es:u.map Ao=K5 (l.map Ao):=Tp h.s (dI _)<|(hp.map _).trans (SX _).symm;rw[<-es,zr,zr,List.getElem?_map,zw d];obtain⟨q,f⟩:=v _<|hp.mem_iff.1<|List.getElem_mem d;show y9 600 u[k]<|Ao u[k];rw[f.rat];exact f
 have a:=g ((l.length-1)/2) ae;have b:=g (l.length/2) ae;have s:=a.B0 b;have m:=s.DR Mj;have o:=G8 (i:=(((l.length-1)/2:Nat):Int)) (n:=l.length) ae;have r:=G8 (i:=((l.length/2:Nat):Int)) (n:=l.length) ae;refine zg (Be ..) (zj (w8 ae)<|zc rfl ?_);rw[w,j,ze,ze];refine zc o (zc (w4 ae)<|zc rfl (zc r<|zc (w4 ae)<|zc (Ab (a.num af)<|b.num af)<|zc (s.num af)<|zf ?_));have e:uN (B0 (u.getD ((l.length-1)/2) [])<|u.getD (l.length/2) [])=yS l:=by
  show DR _ _=_;rw[m.t];unfold yS eW Ad2;rw[WS,yf];congr 1;grind
 rw[e];exact f _
theorem inner(ok:fI l){i:Nat}{u:List Bf}(h:Ins l i u){x:Bf}{r:List Bf}(g:l.drop i=x::r)(y:∀v,Ins l (i+1) v->Ends N3 (L3 l (i+1) ((i+1:Nat):Int) v) Q):∀k:Nat,k<=i->(∀j,k<=j->j<u.length->Ao x<Ao (u.getD j []))->Ends N3 (L4 l i (i:Int) (k:Int) u) Q:=by
 obtain⟨l0,l1,A⟩:=ok;obtain⟨g1,g2,_⟩:=drop_cons (d:=([]:Bf)) g;have B:=h.len ae;have E:=wn (i:=i) ae;have w:=G8 (i:=(i:Int)) (n:=l.length) ae;obtain⟨qx,nx⟩:=A x (zn<|by rw[g];exact zk);intro k;induction k with
 |zero=>
  intro I f;have st:=y _<|h.step g (k:=0) (zt _) (.inl rfl)<|fun j D=>f j D;refine zg (B1 ..) (zj (w8 ae) ?_);rw[ze,ze,g2,E];have m:zq (zq (zq 0 (z8 0 u).length) 1) (z8 (qd i 0)<|yu (zq 0 0) u).length=i+1:=by simp;omega
  have q:[]++z8 0 u++[x]++z8 (qd i 0) (yu (zq 0 0) u)=z8 0 u++x::yu 0 u:=by simp[<-B]
  rw[m,q];exact zc (by simp) (zc w<|zc (by simp)<|zc (by simp)<|zc (by simp)<|zc (by simp;omega) st)
 |succ k G=>
  intro I f;have F:zd .i64 (((k+1:Nat):Int)-1)=(k:Int):=by rw[wr _ ae ae];omega
  have a:k<u.length:=ae
  have H:u.getD k []∈l:=by
   rw[zr,zw a];exact List.mem_of_mem_take<|h.p.mem_iff.1<|List.getElem_mem a
  obtain⟨J,b⟩:=A _ H;have C:=b.cmp nx;refine zg (B1 ..) (zc (w4 ae) ?_);rw[F,ze,ze,ze,g2,E];refine zc (G8 ae) (zc (w4 a)<|zc w<|zc (Ab (b.num af)<|nx.C0 af)<|zh (fun z=>?_)<|fun z=>?_)
  ·have z:=w6 z;have lt:Ao x<Ao (u.getD k []):=by
    rw[nx.rat,b.rat];rw[C]at z;grind
   refine G ae fun j D o=>?_
   by_cases e:j=k
   ·subst e;exact lt
   ·exact f j ae o
  ·have z:=w7 z;have le:Ao (u.getD k [])<=Ao x:=by
    rw[nx.rat,b.rat];rw[C]at z;grind
   have st:=y _ (h.step g (k:=k+1) ae (.inr<|by rw[Nat.add_sub_cancel];exact le) f);have K:(z8 (k+1) u).length=k+1:=by rw[ym];omega
   have m:zq (zq (zq 0 (z8 (k+1) u).length) 1) (z8 (qd i<|k+1)<|yu (zq 0<|k+1) u).length=i+1:=by simp;omega
   have q:[]++z8 (k+1) u++[x]++z8 (qd i<|k+1) (yu (zq 0<|k+1) u)=z8 (k+1) u++x::yu (k+1) u:=by
    simp[<-B];exact yw (by rw[List.length_drop];exact yx _)
   rw[m,q];exact zc (by simp;omega) (zc w<|zc (by simp;omega)<|zc (by simp;omega)<|zc (by simp;omega)<|zc (by simp;omega) st)
theorem loop(ok:fI l)(b:∀ob,Q (.dat .str<|yS l) ob):∀(k i:Nat) (u:List Bf),i+k=l.length->Ins l i u->Ends N3 (L3 l i (i:Int) u) Q
 |0,i,u,a,h=>by
  have a:i=l.length:=a;subst a;exact fin ok b h
 |k+1,i,u,a,h=>by
  have d:i<l.length:=ae
  have g:l.drop i=l[i]::l.drop (i+1):=yg d;refine zg (Be ..) (zc (w4 ae) ?_);exact inner ok h g (fun v f=>loop ok b k (i+1) v ae f) i (yx _) (fun j m e=>by rw[h.len ae]at e;omega)
theorem ok:Af AY 94 jX:=by
 refine BA rU<|fun(l:List Bf) hl=>?_;have ok:=zY hl;have n0:0<l.length:=ye.2 ok.1;have a:l.drop 0=l[0]::l.drop 1:=yg n0;obtain⟨_,e,_⟩:=drop_cons (d:=([]:Bf)) a;have b:Ins l 0 []:=⟨List.Perm.refl _,List.Pairwise.nil⟩;have st:=loop ok (Q:=Ac jX l) (fun ob=>ya rfl rfl rfl) (l.length-1) 1 _ ae (b.step a (k:=0) (zt _) (.inl rfl) (fun j _ h=>by cases h));refine zx (Aj l) (zg (Ak ..)<|zc (w4 ae) (zg (Az ..)<|zj rfl (zc rfl (zc (G8 ae)<|zc rfl (zc rfl (zc rfl (zc rfl ?_)))))));rw[show zy 0=0 from rfl,e];exact st
end T94
section
open List Int Prod
namespace T18
def T[Srt](c:AF)(t l i k:Int):Tr:=tree AbI false 9 18<|Ag ([Ba,z7 zo,z7 zo,z7 zo,z7 zo]) (c,t,l,i,k)
def L1[Srt](v1 v2 v4:Int)(d:Rd)(e:Int)(f:List Bs)(b:List B7)(a:List Bq):Tr:=re ((T ([],([],[])) 0 0 0 0))<|Ax 27 [(1,.dat i64 v1),(2,.dat i64 v2),(4,.dat i64 v4),(5,.ptr 0 0),(11,.dat zu d),(12,.dat i64 e)] [(0,.box [.dat (yd Bw) f,.dat (yd CY) b,.dat (yd Bk) a])] 1
theorem Aj[Srt](c:AF)(t l i k:Int):T c t l i k=L1 t l k ([(48:UInt8)]) i (fst c) (fst<|snd c) (snd<|snd c):=by kernel_rfl
theorem Ak[Srt](v1 v2 v4:Int)(e:Rd)(d:Int)(f:List Bs)(b:List B7)(a:List Bq):stepT AbI (L1 v1 v2 v4 e d f b a)=let g:=Sp.hoR (f,b,a) v1 d v2;.di (d<v4) (.ck (XO (f,b,a) v1 d v2)<|.ck (AU e&&AU g)<|L1 v1 v2 v4 (B0 e g) (zd .i64<|d+1) f b a) (.leaf (.dat zu e) []):=by kernel_rfl
end T18
namespace T19
def T[Srt](c:AF)(t l:Int):Tr:=tree Ag5 false 9 19<|Ag ([Ba,z7 zo,z7 zo]) (c,t,l)
theorem Aj[Srt](c:AF)(t l:Int):T c t l=.ck (LD c t l&&nV c 0 (↑(length<|fst c):Int)) (.leaf (.dat zu<|Sp.paR c t l 0 (↑(length<|fst c):Int)) []):=by kernel_rfl
end T19
namespace T20
def T[Srt](c:AF)(t l:Int):Tr:=tree Agb false 9 20<|Ag ([Ba,z7 zo,z7 zo]) (c,t,l)
theorem Aj[Srt](c:AF)(t l:Int):T c t l=let a:=([49,47,49,48]:Rd);.ck (LD c t l) (.ck (yE (Sp.exR c t l) a)<|.leaf (.dat zu<|Afe (Sp.exR c t l) a) []):=by kernel_rfl
end T20
namespace T63
def T[Srt](a u:Rd):Tr:=tree Af8 false 9 63<|Ag ([zu,zu]) (a,u)
theorem Aj[Srt](a u:Rd):T a u=let b':=([49,47,50]:Rd);let b:=B0 (FF a u) b';.ck (AU a&&Wf u) (.ck (AU (FF a u)&&AU b')<|.ck (AU b)<|.ck (AU (GG b)&&AU u)<|.leaf (.dat zu<|DR (GG b) u) []):=by kernel_rfl
end T63
end
end Go.Pe
