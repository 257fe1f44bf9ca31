import Derived.Test.YtobmcolckeoejaaGreatDoorX15
import Derived.Test.YtobmcolckeoejaaGreatDoorRows
import Derived.LaidByTextLater
import Derived.SevenTiedAt
import Derived.LaidSub
import Derived.LaidOnce
/- A part of a proof; no law is stated here. -/
noncomputable section
open Go.Pe.Ends renaming tt -> zc, leaf -> zf, An -> zm, ite -> zp, eq -> zx, ff -> zz
open Int renaming toNat_natCast -> zd, tdiv -> yq
open Go.IntKind renaming wrap -> ze
open Bool renaming and_eq_true -> zg, or_eq_true -> yf, true_or -> yu
open List renaming mem_cons_self -> zh, length_map -> zi, getD_eq_getElem?_getD -> zj, length_pos_iff -> zk, all_eq_true -> zl, mem_of_mem_drop -> zn, getElem?_eq_getElem -> zr, take_of_length_le -> zt, take -> zu, drop_eq_getElem_cons -> z6, take_append_drop -> ya, length_cons -> yb, mem_cons_of_mem -> yd, map_congr_left -> yg, mem_map -> yh, mem_cons -> yi, getElem_mem -> yk, length_take -> ym, drop -> yn, map_map -> yo, map_append -> yp
open Nat renaming zero_le -> zo, add -> zq, le_refl -> yc, sub -> yv
open Rat renaming intCast_eq_zero_iff -> zw, not_lt -> yt
open Go.Pe.Sh renaming str -> zy, list -> z8
open Go.Pe.Ad renaming of -> z7
open Go.OpenClaim renaming laidByTextAt_pinned -> ye
open Option renaming getD_some -> yj, getD -> yr
namespace Go.Sp
theorem KO{α:Type}(l:List α)(m:Nat):Bj (l.length:Int) (m:Int)=if l=[]then 12 else if m<l.length then 5 else 0:=by
 unfold Bj;cases l with
 |nil=>rfl
 |cons x l=>
  rw[wc (by rw[yb];omega),wc<|List.cons_ne_nil x l];by_cases h:m<(x::l).length
  ·rw[wd h,wd ae]
  ·rw[wc h,wc ae]
theorem gU(c:Bc):Va c=if Bj (c.1.length:Int) 36≠0 then Bj (c.1.length:Int) 36 else if LZ c.1≠0 then LZ c.1 else Yt c:=by
 have e:=KO c.1 36;have e:Bj (c.1.length:Int) 36=if c.1=[]then 12 else if 36<c.1.length then 5 else 0:=e
 rw[e];unfold Va;by_cases h:c.1=[]
 ·rw[wd h,wd h,wd af]
 ·rw[wc h,wc h];by_cases k:36<c.1.length
  ·rw[wd k,wd k,wd af]
  ·rw[wc k,wc k];exact(wc<|fun x=>x rfl).symm
theorem Zd(c:Bc):Yt c=if Bj (c.2.1.length:Int) 8≠0 then Bj (c.2.1.length:Int) 8 else if LC (c.1.length:Int) [] c.2.1≠0 then LC (c.1.length:Int) [] c.2.1 else XR c:=by
 have e:=KO c.2.1 8;have e:Bj (c.2.1.length:Int) 8=if c.2.1=[]then 12 else if 8<c.2.1.length then 5 else 0:=e
 rw[e];unfold Yt;by_cases h:c.2.1=[]
 ·rw[wd h,wd h,wd af]
 ·rw[wc h,wc h];by_cases k:8<c.2.1.length
  ·rw[wd k,wd k,wd af]
  ·rw[wc k,wc k];exact(wc<|fun x=>x rfl).symm
theorem Yf(c:Bc):XR c=if Bj (c.2.2.length:Int) 8≠0 then Bj (c.2.2.length:Int) 8 else Tj [] c.2.2:=by
 have e:=KO c.2.2 8;have e:Bj (c.2.2.length:Int) 8=if c.2.2=[]then 12 else if 8<c.2.2.length then 5 else 0:=e
 rw[e];unfold XR;by_cases h:c.2.2=[]
 ·rw[wd h,wd h,wd af]
 ·rw[wc h,wc h];by_cases k:8<c.2.2.length
  ·rw[wd k,wd k,wd af]
  ·rw[wc k,wc k];exact(wc<|fun x=>x rfl).symm
theorem fZ(s:ED)(l:List ED):LZ (s::l)=if Tq s≠0 then Tq s else LZ l:=by rw[LZ]
def tE(n:Int)(seen:List BS)(t:Ix)(b:Bool):Int:=first [Cd (!isName t.1) 8,Cd (has seen t.1) 9,Cd ((t.2.length:Int) !=n) 2,Cd b 3]
theorem iL(n:Int)(seen:List BS)(t:Ix)(l:List Ix):LC n seen (t::l)=if tE n seen t (J9 t.2)≠0 then tE n seen t (J9 t.2)else LC n (t.1::seen) l:=by
 rw[LC];unfold tE;rw[De,De,De,De,FT,FT,FT,FT];cases isName t.1
 ·rfl
 ·cases has seen t.1
  ·by_cases h:(t.2.length:Int)=n
   ·rw[show((t.2.length:Int) !=n)=false by simp[h]];cases J9 t.2
    ·rw[wc af,wc af,wc<|fun x=>x h];rfl
    ·rw[wc af,wc af,wc<|fun x=>x h];rfl
   ·rw[show((t.2.length:Int) !=n)=true by simp[h]];rw[wc af,wc af,wd h];rfl
  ·rfl
theorem dI(seen:List BS)(l:Fo)(r:List Fo):Tj seen (l::r)=if first [Xm l,Cd (has seen l.1) 9]≠0 then first [Xm l,Cd (has seen l.1) 9]else Tj (l.1::seen) r:=by
 rw[Tj,Go.Pe.JZ,FT];cases has seen l.1<;>by_cases h:Xm l=0<;>simp[h]
end Go.Sp
variable {Q:Go.Pe.PV->Go.Pe.Ob->Prop}
namespace Go.Pe
open Sp
open Go.Det
open Go.Sp (Bc ED Fo BJ LX BS Ix)
theorem oJ[Srt]:CL Lx:=Aa T58.ok<|Aa T150.ok<|Aa T152.uS<|Aa T57.ok<|Aa T59.ok<|Aa T153.ok AI
namespace T115
theorem AbI[Srt](l:List Fo)(g:l.length<=1000000)(e:∀x∈l,Sp.Hy x=true):∀(r:List Fo) (i:Nat) (m:List (BS×Bool)) (seen:List BS),l.drop i=r->i<=l.length->IK m (fun x=>x∈seen)->(∀ob,Q (.dat i64<|Tj seen r) ob)->Ends Lx (L4 l (l.length:Int) (i:Int) m) Q
 |[],i,m,seen,h,f,b,a=>by
  have:=drop_nil h f;exact zm (BU ..) (zz (w8 ae)<|zf<|a _)
 |p::r,i,m,seen,h,f,b,a=>by
  obtain⟨o,j,q⟩:=drop_cons (d:=(([],[],[],[],[]):Fo)) h;have s:=e p (zn<|by rw[h];exact zh ..);have n:=wn (i:=i) ae;rw[dI]at a;refine zm (BU ..) ?_;conv=>zeta
  rw[zd,j,n,Mm b];refine zc (w4 ae) (zc (ad ae ae)<|zc s<|zc rfl (zc rfl (zp (fun c=>zf ?_)<|fun c=>?_)))
  ·have c:(Sp.first [Xm p,Cd (Sp.has seen p.1) 9] !=0)=true:=c;rw[wd<|by simpa using c]at a;exact a _
  ·have c:(Sp.first [Xm p,Cd (Sp.has seen p.1) 9] !=0)=false:=c;rw[wc<|by simpa using c]at a;exact AbI l g e r (i+1) _ _ q o (PX b p.1) a
theorem Ab7[Srt]{s:List Ix}{q o:Int}{o1:List (BS×Bool)}{E:List ED}{p:List Ix}{g:List Fo}(t:Ix)(y:t.2.length<=1000000)(m:List (BS×Bool))(seen:List BS)(u:IK m (fun x=>x∈seen))(S:List ED)(v:List Ix)(V:List Fo):∀(r:List Int) (j:Nat),t.2.drop j=r->j<=t.2.length->
  (∀ob,Sp.tE (S.length:Int) seen t (J9 r)≠0->Q (.dat i64<|Sp.tE (S.length:Int) seen t<|J9 r) ob)->(Sp.tE (S.length:Int) seen t (J9 r)=0->Ends Lx (L2 s q (ze .i64<|o+1) (He .str .bool t.1 true m) S v V) Q)->
  Ends Lx (L3 s q o o1 E p g t.2 (t.2.length:Int) (j:Int) t.1 t.2 m S v V) Q
 |[],j,h,w,b,a=>by
  have:=drop_nil h w;refine zm (BT ..) (zz (w8 ae) ?_);rw[Mm u];refine zc rfl (zc rfl (zc rfl (zc rfl (zc rfl (zc rfl (zp (fun c=>zf ?_)<|fun c=>?_))))))
  ·have c:(Sp.tE (S.length:Int) seen t (J9 []) !=0)=true:=c;exact b _ (by simpa using c)
  ·have c:(Sp.tE (S.length:Int) seen t (J9 []) !=0)=false:=c;exact a (by simpa using c)
 |n::r,j,h,w,b,a=>by
  obtain⟨D,B,A⟩:=drop_cons (d:=(0:Int)) h;have C:=wn (i:=j) ae;have z:decide ((j:Int)>=0)=true:=w4 ae;have f:J9 (n::r)=((decide (n<1)||decide (10000<n))||J9 r):=by unfold J9;rw[List.any_cons]
  refine zm (BT ..) ?_;conv=>zeta
  rw[zd,B,C,z,Mm u];refine zc (w4 ae) (zc (Ac (by first|rfl|exact w4 ae)<|w4 ae)<|zp (fun d=>?_)<|fun d=>zp (fun e=>?_)<|fun e=>?_)
  ·rw[d,yu,yu]at f;rw[f]at b a;refine zc rfl (zc rfl (zc rfl (zc rfl (zc rfl (zc rfl (zp (fun c=>zf ?_)<|fun c=>?_))))))
   ·have c:(Sp.tE (S.length:Int) seen t true !=0)=true:=c;exact b _ (by simpa using c)
   ·have c:(Sp.tE (S.length:Int) seen t true !=0)=false:=c;exact a (by simpa using c)
  ·have e:decide (10000<n)=true:=e;rw[e,Bool.or_true,yu]at f;rw[f]at b a;refine zc rfl (zc rfl (zc rfl (zc rfl (zc rfl (zc rfl (zp (fun c=>zf ?_)<|fun c=>?_))))))
   ·have c:(Sp.tE (S.length:Int) seen t true !=0)=true:=c;exact b _ (by simpa using c)
   ·have c:(Sp.tE (S.length:Int) seen t true !=0)=false:=c;exact a (by simpa using c)
  ·have e:decide (10000<n)=false:=e;rw[d,e,Bool.false_or,Bool.false_or]at f;rw[f]at b a;exact Ab7 t y m seen u S v V r (j+1) A D b a
theorem SF[Srt](c:Bc)(b:RD c=true):∀(r:List Ix) (i:Nat) (m:List (BS×Bool)) (seen:List BS),c.2.1.drop i=r->i<=c.2.1.length->IK m (fun x=>x∈seen)->
  (∀ob,Q (.dat i64<|if LC (c.1.length:Int) seen r≠0 then LC (c.1.length:Int) seen r else XR c) ob)->Ends Lx (L2 c.2.1 (c.2.1.length:Int) (i:Int) m c.1 c.2.1 c.2.2) Q
 |[],i,m,seen,h,f,e,a=>by
  have:=drop_nil h f;have a:∀ob,Q (.dat i64<|XR c) ob:=fun ob=>by
   have:=a ob;rwa [show LC (c.1.length:Int) seen []=0 from rfl,wc<|fun x=>x rfl]at this
  rw[Yf]at a;refine zm (AL ..) (zz (w8 ae)<|zc rfl (zp (fun d=>zf ?_)<|fun d=>?_))
  ·rw[wd<|by simpa using d]at a;exact a _
  ·rw[wc<|by simpa using d]at a;have s:=Pw b;exact AbI c.2.2 (by have:=s.2.2.1;omega) s.2.2.2.2.2 c.2.2 0 [] [] rfl (zo _) O6 a
 |t::r,i,m,seen,h,f,e,a=>by
  obtain⟨o,g,p⟩:=drop_cons (d:=(([],[]):Ix)) h;have s:=Pw b;have st:=s.2.2.2.2.1 t (zn<|by rw[h];exact zh ..);have st:(decide (t.1.length<=40)&&decide (t.2.length<=40))=true:=st;rw[zg,w5,w5]at st;have q:=s.2.1;have j:=wn (i:=i) ae;rw[iL]at a;refine zm (AL ..) ?_;conv=>zeta
  rw[zd,g];refine zc (w4 ae) (zc (ad ae ae) ?_);refine Ab7 t ae m seen e c.1 c.2.1 c.2.2 t.2 0 rfl (zo _) (fun ob d=>?_) (fun d=>?_)
  ·rw[wd d,wd d]at a;exact a _
  ·have n:¬Sp.tE (c.1.length:Int) seen t (J9 t.2)≠0:=fun x=>x d
   rw[wc n]at a;rw[j];exact SF c b r (i+1) _ _ p o (PX e t.1) a
theorem Vb[Srt](c:Bc)(b:RD c=true):∀(r:List ED) (i:Nat),c.1.drop i=r->i<=c.1.length->
  (∀ob,Q (.dat i64<|if LZ r≠0 then LZ r else Yt c) ob)->Ends Lx (L1 c.1 (c.1.length:Int) (i:Int) c.1 c.2.1 c.2.2) Q
 |[],i,h,e,a=>by
  have:=drop_nil h e;have a:∀ob,Q (.dat i64<|Yt c) ob:=fun ob=>by
   have:=a ob;rwa [show LZ []=0 from rfl,wc<|fun x=>x rfl]at this
  rw[Zd]at a;refine zm (Al ..) (zz (w8 ae)<|zc rfl (zp (fun d=>zf ?_)<|fun d=>?_))
  ·rw[wd<|by simpa using d]at a;exact a _
  ·rw[wc<|by simpa using d]at a;exact SF c b c.2.1 0 [] [] rfl (zo _) O6 a
 |p::r,i,h,e,a=>by
  obtain⟨m,f,n⟩:=drop_cons (d:=(([],[],[],[],[]):ED)) h;have s:=Pw b;have sp:=s.2.2.2.1 p (zn (by rw[h];exact zh ..));have o:=s.1;have g:=wn (i:=i) ae;rw[fZ]at a;refine zm (Al ..) ?_;conv=>zeta
  rw[zd,f,g];refine zc (w4 ae) (zc (ad ae ae)<|zc sp<|zp (fun d=>zf ?_)<|fun d=>?_)
  ·have d:(Tq p !=0)=true:=d;have d:Tq p≠0:=by simpa using d
   rw[wd d,wd d]at a;exact a _
  ·have d:(Tq p !=0)=false:=d;have j:¬Tq p≠0:=by simpa using d
   rw[wc j]at a;exact Vb c b r (i+1) n m a
theorem ok[Srt]:Af A5 115 cCo:=by
 refine BG oJ<|fun(c:Bc) a=>?_;have a:RD c=true:=a;have b:∀e ob,e=Va c->Ad cCo c (.dat i64 e) ob:=fun e ob x=>z7 rfl rfl x
 have e:=gU c;refine zx (Ak c)<|zc rfl (zp (fun d=>zf<|b _ _ ?_)<|fun d=>?_)
 ·rw[wd<|by simpa using d]at e;exact e.symm
 ·rw[wc<|by simpa using d]at e;exact Vb c a c.1 0 rfl (zo _) (fun ob=>b _ _ e.symm)
end T115
open Go.Sp (Bc ED Fo BJ LX BS)
theorem T53.ok[Srt]:Af A5 53 Abv:=by
 refine Ir (X:=dO) rfl (fun g sp h=>by cases h) (d:=9) ag ag ag (fun(i:Bc×Int) _=>?_) (Bd ag);exact zx (T53.Ak i.1 i.2)<|zf<|z7 rfl rfl rfl
theorem T54.ok[Srt]:Af A5 54 bS:=by
 refine Ir (X:=dO) rfl (fun g sp h=>by cases h) (d:=9) ag ag ag (fun(i:Bc×Int) _=>?_) (Bd ag);exact zx (T54.Ak i.1 i.2)<|zf<|z7 rfl rfl rfl
theorem OP{i:Int}{n:Nat}(h:0<=i/\i<(n:Int)):(decide ((0:Int)<=i)&&decide (i<(n:Int)))=true:=Ac (w4 h.1)<|w4 h.2
theorem DR{s:BS}(h:Av s=0):Dc s=true:=(Ei (Dg h).1).2.2.2.2.2.2.1
theorem pG[Srt]:CL S7:=Aa T66.ok<|Aa T60.ok<|Aa T67.ok<|Aa T87.ok AI
namespace T65
theorem ok[Srt]:Af A5 65 cPl:=by
 refine BG pG<|fun(i:Bc×Int×Int) hi=>?_;obtain⟨c,t,h⟩:=i;have P:=X2 hi;have z:RS 1 Sp.zF 0:=GJ;have a1:=z.add P.hr.rise af af;have a2:=a1.add P.hr.wind af af;have a3:=a2.add P.hr.lay af af;have b:=(pO P).Da;have g:0<=h/\h<((c.2.1.getD t.toNat ([],[])).2.length:Int):=by rw[P.tl];exact P.h0
 obtain⟨s,a⟩:∃s,s=Dy c h:=⟨_,rfl⟩;have fin:∀f:Ab,f=BI (BI (BI Sp.zF<|BR s.1)<|BR s.2.1) (BR s.2.2.1)->Ends S7 (L2 t h c s 0 0 3 3 3 f.1.1 f.1.2 f.2.1 f.2.2 0 0 [s.1,s.2.1,s.2.2.1] 0 0) (Ad cPl (c,t,h)):=fun f d=>by
  have e:BI (Sp.iF<|Oi c t h) f=lL c t h:=by rw[d,a];rfl
  refine zm (AL ..) (zz rfl (zc (by rw[a]at d;rw[<-d]at a3;exact(mK P.te).N3 a3 af af)<|zc (by rw[<-e]at b;exact b)<|zp (fun s=>zc rfl (zf<|z7 rfl rfl ?_))<|fun s=>zf<|z7 rfl rfl ?_))
  ·have s:Qk (BI (Sp.iF<|Oi c t h) f)<0:=w6 s;rw[e]at s;show Sp.zF=TB c t h;unfold TB;rw[wd s]
  ·have s:¬Qk (BI (Sp.iF<|Oi c t h) f)<0:=w7 s;rw[e]at s;show BI (Sp.iF<|Oi c t h) f=TB c t h;rw[e];unfold TB;rw[wc s]
 rw[<-a]at a1 a2 a3;have s2:∀f:Ab,f=BI (BI Sp.zF<|BR s.1) (BR s.2.1)->Ends S7 (L2 t h c s 0 0 3 3 2 f.1.1 f.1.2 f.2.1 f.2.2 0 0 [s.1,s.2.1,s.2.2.1] 0 0) (Ad cPl (c,t,h)):=fun f d=>by
  rw[<-d]at a2 fin;refine zm (AL ..) (zc rfl (zc rfl (zc rfl (zc (by rw[a];exact DR P.st.lay)<|zc (a2.N3 (by rw[a];exact P.hr.lay) af af) ?_))));exact fin (BI f<|BR s.2.2.1) rfl
 have s1:∀f:Ab,f=BI Sp.zF (BR s.1)->Ends S7 (L2 t h c s 0 0 3 3 1 f.1.1 f.1.2 f.2.1 f.2.2 0 0 [s.1,s.2.1,s.2.2.1] 0 0) (Ad cPl (c,t,h)):=fun f d=>by
  rw[<-d]at a1 s2;refine zm (AL ..) (zc rfl (zc rfl (zc rfl (zc (by rw[a];exact DR P.st.wind)<|zc (a1.N3 (by rw[a];exact P.hr.wind) af af) ?_))));exact s2 (BI f<|BR s.2.1) rfl
 refine zx (Ak c t h)<|zc (OP P.h0)<|zm (Al ..)<|zc (OP P.t0)<|zc (OP g)<|zc rfl (zc rfl ?_);show Ends S7 (L2 t h c (Dy c h) 0 0 3 3 0 0 (Bo 0) 1 (Bo 1) 0 0 [(Dy c h).1,(Dy c h).2.1,(Dy c h).2.2.1] 0 0) _;rw[<-a];refine zm (AL ..) (zc rfl (zc rfl (zc rfl (zc (by rw[a];exact DR P.st.rise)<|zc (z.N3 (by rw[a];exact P.hr.rise) af af) ?_))));exact s1 (BI Sp.zF<|BR s.1) rfl
end T65
theorem mC[Srt]:CL rY:=Aa T65.ok<|Aa T66.ok<|Aa T81.ok<|Aa T67.ok<|Aa T61.ok<|Aa T74.ok<|Aa T68.ok AI
structure AtA(c:Bc)(t h l:Int):Prop where
 P:AtP c t h
 L:AtL c l
 kp:Sp.okP c t h=true
 ko:Sp.okO c h l=true
 h0:Au (Ft c l).2.1+Au (Dy c h).2.2.2.1≠0
 n0:Au (Ft c l).2.2.1+Au (Dy c h).2.2.2.1≠0
theorem Yb{c:Bc}{t h l:Int}(k:iR c t h l=true):AtA c t h l:=by
 obtain⟨kp,ko⟩:=Zb k;have P:=X2 kp;obtain⟨L,_,_,_⟩:=Pt ko;have a:=P.st.rollB.1;exact⟨P,L,kp,ko,Rat.ne_of_gt<|Ot L.lr.hp a,Rat.ne_of_gt<|Ot L.lr.np a⟩
namespace T71
theorem ok[Srt]:Af A5 71 cEf:=by
 refine BG mC<|fun(i:Bc×Int×Int×Int) hi=>?_;obtain⟨c,t,h,l⟩:=i;obtain⟨P,L,kp,ko,h0,n0⟩:=Yb hi;have p:=AbO P;have r:=P.hr.roll;have reach:=L.lr.head.add r af af;have a:=L.lr.next.add r af af;have d:=p.sub reach af af;have m:=d.mul L.lr.next af af;have q:=m.div a af af n0;have b:=p.mul L.lr.head af af;refine zx (Ak c t h l) (zc (OP L.l0)<|zc (OP P.h0)<|zc (DR P.st.roll)<|zc kp<|zc (DR L.lv.head)<|zc (DR L.lv.next)<|zc (L.lr.head.N3 r af af) ?_);refine zm (Al ..) (zc (Ac (p.B8 af)<|reach.B8 af)<|zp (fun s=>?_)<|fun s=>?_)
 ·have s:CW (TB c t h) (BI (Iu c l)<|Ks c h)<=0:=w6 s;refine zc (p.N3 L.lr.head af af) (zc (b.ok3 reach af af h0)<|zf<|z7 rfl rfl ?_);show Jb (Fq (TB c t h)<|Iu c l) (BI (Iu c l)<|Ks c h)=cR c t h l;unfold cR;rw[wd s]
 ·have s:¬CW (TB c t h) (BI (Iu c l)<|Ks c h)<=0:=w7 s;refine zm (AL ..) (zc (p.N3 reach af af)<|zc (d.N3 L.lr.next af af)<|zc (L.lr.next.N3 r af af)<|zc (m.ok3 a af af n0)<|zc (L.lr.head.N3 q af af)<|zf<|z7 rfl rfl ?_);show BI (Iu c l) (Jb (Fq (E9 (TB c t h)<|BI (Iu c l)<|Ks c h)<|WQ c l)<|BI (WQ c l)<|Ks c h)=cR c t h l;unfold cR;rw[wc s]
end T71
theorem pF[Srt]:CL wQ:=Aa T115.ok<|Aa T59.ok AI
namespace T52
theorem loop[Srt]{Q:PV->Ob->Prop}{n:List ED}{t:List Ix}{o:List Fo}(c:Bc)(l:List (Int×Int))(m:l.length<=1000)(f:∀ob,Q (.dat i64<|Cd (V1 l) 10) ob):∀(r:List (Int×Int)) (i:Nat),l.drop i=r->i<=l.length->V1 l=V1 r->Ends wQ (L1 c l l (l.length:Int) (i:Int) n t o) Q
 |[],i,h,j,e=>by
  have:=drop_nil h j;rw[e]at f;exact zm (Al ..) (zz (w8 ae)<|zc rfl (zf<|f _))
 |p::r,i,h,j,e=>by
  obtain⟨w,u,s⟩:=drop_cons (d:=((0,0):Int×Int)) h;have v:=wn (i:=i) ae;have g:V1 (p::r)=(decide (p.1<0)||decide (p.2<=p.1)||V1 r):=List.any_cons;have q:decide ((i:Int)>=0)=true:=w4 ae;refine zm (Al ..) ?_;conv=>zeta
  rw[zd,u,v,q];refine zc (w4 ae) (zc (Ac rfl (w4 ae))<|zp (fun a=>zc rfl (zf ?_))<|fun a=>zp (fun b=>zc rfl (zf ?_))<|fun b=>?_)
  ·rw[e,g,show decide (p.1<0)=true from a]at f;exact f _
  ·rw[e,g,show decide (p.2<=p.1)=true from b,Bool.or_true]at f;exact f _
  ·exact loop c l m f r (i+1) s w (by rw[e,g,show decide (p.1<0)=false from a,show decide (p.2<=p.1)=false from b];rfl)
theorem ok[Srt]:Af A5 52 Ug:=by
 refine BG pF<|fun(i:Bc×List (Int×Int)) a=>?_;obtain⟨c,l⟩:=i;have a:(RD c&&decide (l.length<=1000))=true:=a;rw[zg,w5]at a;have b:∀v ob,v=US c l->Ad Ug (c,l) (.dat i64 v) ob:=fun v ob e=>z7 rfl rfl e
 refine zx (Ak c l)<|zc a.1<|zp (fun k=>zf<|b _ _ ?_)<|fun k=>?_
 ·have k:Va c≠0:=by simpa using k
  show Va c=US c l;unfold US N0;rw[wd k]
 ·have k:¬Va c≠0:=by simpa using k
  refine loop c l a.2 (fun ob=>b _ _ ?_) l 0 rfl (zo _) rfl;unfold US N0 Cd;rw[wc k];cases V1 l<;>rfl
end T52
open Go.Sp (Ab)
theorem jX:CL rV:=Aa T67.ok<|Aa T60.ok<|Aa T68.ok AI
theorem zI:∀g w,rV.ws g=some w->FC A5 g w:=ZQ (l:=[(95,TL)]) fun x a=>by
 cases List.mem_singleton.1 a;exact iJ
theorem T34.ok:Af A5 34 Ac1:=by
 refine Ir (X:=rV) rfl jX (d:=9) ag ag ag (fun(l:List Ab) hi=>?_) (Bd ag) zI;obtain⟨l0,l1,n⟩:=vW hi;have n0:0<l.length:=zk.2 l0;have f:∀x∈l,RS 1500 x (HX x):=fun x e=>by
  obtain⟨X,h⟩:=n x e;rw[<-h.val];exact h
 have ok:Ri l=true:=Aaz ⟨l0,l1,fun x e=>⟨_,(f x e).mono af⟩⟩;have p:=Qa n0 fun x e=>⟨_,(f x e).mono af⟩
 have sl:(Ea l).length=l.length:=p.length_eq;have j:zu (zq 0 l.length) (Ea<|[]++l)=Ea l:=zt (by rw[List.nil_append,sl];exact Nat.le_of_eq (Nat.zero_add _).symm);have i:ze .i64 (yq (ze .i64<|((Ea l).length:Int)-1) 2)=(((l.length-1)/2:Nat):Int):=by
  rw[sl,wr ((l.length:Int)-1) ae ae,show(l.length:Int)-1=((l.length-1:Nat):Int)by omega];show ze .i64 (((l.length-1)/2:Nat):Int)=_;exact wr _ ae ae
 have g:ze .i64 (yq ((Ea l).length:Int) 2)=((l.length/2:Nat):Int):=by
  rw[sl];show ze .i64 ((l.length/2:Nat):Int)=_;exact wr _ ae ae
 have m:Sp.mX (Ea l)=(Ea l).getD ((l.length-1)/2) Sp.zeF:=by unfold Sp.mX;rw[i];rfl
 have o:Sp.mY (Ea l)=(Ea l).getD (l.length/2) Sp.zeF:=by unfold Sp.mY;rw[g];rfl
 have c:∀k,k<l.length->RS 1500 ((Ea l).getD k Sp.zeF) (HX<|(Ea l).getD k Sp.zeF):=fun k q=>by
  rw[zj,zr ae,yj];exact f _<|p.mem_iff.1<|yk _
 have a:=c ((l.length-1)/2) ae;have b:=c (l.length/2) ae;have t:RS 1 (Sp.iF 2) ((2:Int):Rat):=FV af af af;have s:=a.add b af af;refine zx (T34.Ak l) (zc (w4 n0)<|zc (w4 ae)<|zc (Ac (Ac ok<|w4<|Nat.zero_add _) rfl) ?_);rw[j];refine zm (T34.Al ..) ?_;conv=>zeta
 rw[i,g,m,o,sl];exact zc rfl (zc (OP ae)<|zc rfl (zc (OP ae)<|zc (a.N3 b af af)<|zc rfl (zc (s.ok3 t af af<|by decide+kernel)<|zf<|z7 rfl rfl rfl)))
section
open List Int Prod
namespace T14
def T[Srt](l:List Rd):Tr:=tree cE false 9 14<|Ag ([z8 zy]) l
def L1[Srt](v0:List Rd)(v3:Int):Tr:=re ((T []))<|Ay 19 [(0,.dat (z8 zy) v0),(3,.dat i64 v3)] [] 0
theorem Ak[Srt](l:List Rd):T l=L1 l 0:=by kernel_rfl
theorem Al[Srt](v0:List Rd)(v3:Int):stepT cE (L1 v0 v3)=let a:=getD v0 (toNat v3) [];let b':=decide (v3<(length v0:Int));.ite b' (.ck (decide (0<=v3)&&b')<|.cd (length a<=9223372036854775807)<|.ite (Sp.Av a !=0) (.leaf (.dat i64<|Sp.Av a) [])<|L1 v0<|ze .i64<|v3+1) (.leaf (.dat i64 (0:Int)) []):=by kernel_rfl
end T14
end
end Go.Pe
namespace Go.Sp
theorem Gy(s:Rd)(l:List Rd):BW (s::l)=if Av s≠0 then Av s else BW l:=by rw[BW]
end Go.Sp
namespace Go.Pe
open Go.Det
theorem eE[Srt]:CL cE:=Aa T40.uS AI
namespace T14
theorem loop[Srt]{Q:PV->Ob->Prop}(l:List Rd)(f:l.length<=1000000)(b:∀s∈l,s.length<=9223372036854775807):∀(r:List Rd) (i:Nat),l.drop i=r->i<=l.length->(∀ob,Q (.dat i64<|Sp.BW r) ob)->Ends cE (L1 l (i:Int)) Q
 |[],i,h,e,a=>by
  have:=drop_nil h e;exact zm (Al ..) (zz (w8 ae)<|zf<|a _)
 |x::r,i,h,e,a=>by
  obtain⟨n,j,o⟩:=drop_cons (d:=([]:Rd)) h;have g:=b x (zn (by rw[h];exact zh ..));have m:=wn (i:=i) ae;rw[Sp.Gy]at a;refine zm (Al ..) ?_;conv=>zeta
  rw[zd,j,m];refine zc (w4 ae) (zc (ad ae ae)<|zc (w4 g)<|zp (fun c=>zf ?_)<|fun c=>loop l f b r (i+1) o n ?_)
  ·have c:Sp.Av x≠0:=by simpa using c
   rw[wd c]at a;exact a _
  ·have c:Sp.Av x=0:=by simpa using c
   rw[wc<|by rw[c];decide]at a;exact a
theorem ok[Srt]:Af A5 14 Acx:=by
 refine BG eE<|fun(l:List Rd) a=>?_;have a:(decide (l.length<=1000000)&&l.all fun s=>decide (s.length<=9223372036854775807))=true:=a;rw[zg,w5,zl]at a;exact zx (Ak l)<|loop l a.1 (fun s h=>w6<|a.2 s h) l 0 rfl (zo _) (fun ob=>z7 rfl rfl rfl)
end T14
end Go.Pe
namespace Go.Sp
theorem YS{α:Type}(l:List α):Bj (l.length:Int) 256=if l=[]then 12 else if 256<l.length then 5 else 0:=by
 unfold Bj;cases l with
 |nil=>rfl
 |cons x l=>
  rw[wc (by rw[yb];omega),wc<|List.cons_ne_nil x l];by_cases h:256<(x::l).length
  ·rw[wd h,wd ae]
  ·rw[wc h,wc ae]
theorem Ww(l:List Rd):BK l=if Bj (l.length:Int) 256≠0 then Bj (l.length:Int) 256 else BW l:=by
 rw[YS];unfold BK;by_cases h:l=[]
 ·rw[wd h,wd h,wd af]
 ·rw[wc h,wc h];by_cases k:256<l.length
  ·rw[wd k,wd k,wd af]
  ·rw[wc k,wc k,wc af]
theorem NM:∀ {l:List Rd},BW l=0->∀s∈l,Av s=0
 |[],_,s,a=>by cases a
 |x::l,h,s,a=>by
  rw[Gy]at h;split at h
  ·next k=>exact wh h k
  ·next k=>
   rcases yi.1 a with rfl|a
   ·exact Classical.not_not.1 k
   ·exact NM h s a
theorem Gg{l:List Rd}(h:BK l=0):l≠[]/\l.length<=256/\∀s∈l,Av s=0:=by
 unfold BK at h;split at h
 ·exact wh h af
 ·next k=>
  split at h
  ·exact wh h af
  ·exact⟨k,by omega,NM h⟩
theorem Abb{l:List Rd}(h:Qy l=true):(l.length<=1000000/\∀s∈l,s.length<=1000000)/\(BK l=0->∀s∈l,OS s<=500):=by
 unfold Qy at h;rw[zg,zg,yf,w5,w5,zl,zl]at h;exact⟨⟨h.1.1,fun s a=>w6<|h.1.2 s a⟩,fun k s a=>w6<|h.2.resolve_left (fun x=>x k) s a⟩
end Go.Sp
namespace Go.Pe
open Sp
open Go.Det
theorem oA:CL Aav:=Aa T89.ok<|Aa T58.ok AI
namespace T30
theorem loop{Q:PV->Ob->Prop}(l:List Rd)(g:l.length<=1000000)(b:∀s∈l,s.length<=1000000):∀(r:List Rd) (i:Nat) (e:Int),l.drop i=r->i<=l.length->(∀ob,Q (.dat i64<|if e≠0 then e else BW r) ob)->Ends Aav (L1 l e (i:Int)) Q
 |[],i,e,h,f,a=>by
  have:=drop_nil h f;have m:(if e≠0 then e else BW [])=e:=by
   split
   ·rfl
   ·next k=>exact(Classical.not_not.1 k).symm
  rw[m]at a;exact zm (Al ..) (zz (w8 ae)<|zf<|a _)
 |x::r,i,e,h,f,a=>by
  obtain⟨p,n,q⟩:=drop_cons (d:=([]:Rd)) h;have j:=b x (zn<|by rw[h];exact zh ..);have o:=wn (i:=i) ae;refine zm (Al ..) ?_;conv=>zeta
  rw[zd,n,o];refine zc (w4 ae) (zp (fun c=>zc (ad ae ae)<|zc (w4 j)<|loop l g b r (i+1) _ q p ?_)<|fun c=>zf ?_)
  ·have c:e=0:=by simpa using c
   rw[c,Gy,wc af]at a;exact a
  ·have c:e≠0:=by simpa using c
   rw[wd c]at a;exact a _
theorem ok:Af A5 30 MY:=by
 refine BG oA<|fun(l:List Rd) a=>?_;have a:(decide (l.length<=1000000)&&l.all fun s=>decide (s.length<=1000000))=true:=a;rw[zg,w5,zl]at a;exact zx (Ak l)<|zc rfl (loop l a.1 (fun s h=>w6<|a.2 s h) l 0 _ rfl (zo _) (fun ob=>z7 rfl rfl (Ww l).symm))
end T30
theorem oM:CL rA:=Aa T30.ok<|Aa T66.ok<|Aa T60.ok<|Aa T67.ok<|Aa T68.ok<|Aa T34.ok<|Aa T31.ok AI
theorem qX{α:Type}(o:List α)(i j:Nat)(x d:α)(h:i<o.length):(o.set i x).getD j d=if i=j then x else o.getD j d:=by
 rw[zj,List.getElem?_set,zj];by_cases e:i=j
 ·rw[wd e,wd e,wd h];rfl
 ·rw[wc e,wc e]
namespace T8
theorem fill(l:List Rd)(j:l.length<=256)(hr:∀s∈l,Dc s=true)(c:Ends rA (L1 l l.length l (l.length:Int) (l.length:Int)<|l.map BR) Q):∀(r:List Rd) (i:Nat) (o:List Ab),l.drop i=r->i<=l.length->o.length=l.length->o.take i=(l.take i).map BR->Ends rA (L1 l l.length l (l.length:Int) (i:Int) o) Q
 |[],i,o,h,f,b,a=>by
  have e:i=l.length:=drop_nil h f;subst e;rw[zt ae,zt<|yc _]at a;rw[a];exact c
 |s::r,i,o,h,f,b,a=>by
  obtain⟨q,m,t⟩:=drop_cons (d:=([]:Rd)) h;have p:=wn (i:=i) ae;have g:=nb (i:=i) (n:=l.length) ae;refine zm (Al ..) ?_;conv=>zeta
  rw[zd,m,p];refine zc (w4 ae) (zc g<|zc (hr s<|zn<|by rw[h];exact zh ..)<|zc g (zc (w4 ae) (fill l j hr c r (i+1) _ t q (by rw[List.length_set];exact b) ?_)));rw[List.take_add_one,List.take_set_of_le<|yc _,a,RF h,yp,List.getElem?_set_self ae];rfl
theorem ok:Af A5 8 AdO:=by
 refine BG oM<|fun(l:List Rd) hi=>?_;obtain⟨⟨i,n⟩,m⟩:=Abb hi;refine zx (Ak l) (zc (Ac (w4 i)<|zl.2 fun s a=>w4<|n s a)<|zp (fun c=>zf<|z7 rfl rfl (rR (by simpa using c) _))<|fun c=>?_);have c:BK l=0:=by simpa using c
 obtain⟨g,p,d⟩:=Gg c;have n0:0<l.length:=zk.2 g;have j:=m c;have h:∀x∈l.map BR,RS 500 x (HX x):=fun x f=>by
  obtain⟨s,a,rfl⟩:=yh.1 f;have r:=(F7<|d s a).mono<|j s a;rw[<-r.val];exact r
 have ev:(l.map BR).map HX=l.map Au:=by
  rw[yo];exact yg fun s a=>(F7<|d s a).val.symm
 have o:XA (l.map BR)=true:=bO ⟨fun e=>g<|List.map_eq_nil_iff.1 e,by rw[zi];omega,fun x f=>⟨_,(h x f).mono af⟩⟩;have b:=ZY (K:=500) af (by rw[zi];exact n0) h;rw[ev]at b;have b:RS 1002 ((Yv<|l.map BR,Y2<|l.map BR),Xo<|l.map BR,Za<|l.map BR) (J7 l):=b;rw[zd];refine zc (Ac (Ac (Ac (w4 ae)<|w4 rfl)<|w4 ae)<|w4 ae) ?_;refine fill l p (fun s a=>(FU<|d s a).2) ?_ l 0 _ rfl (zo _) (List.length_replicate ..) rfl;refine zm (Al ..) ?_;conv=>zeta
 rw[zt (by rw[zi];exact yc _),zi];exact zz (w8 ae) (zc (Ac (Ac (w4 ae) rfl) o)<|zc (b.B8 af)<|zf<|z7 rfl rfl (qU b c))
end T8
section
open List Int Prod
namespace T11
def T(l:List Rd):Tr:=tree MU false 9 11<|Ag ([z8 zy]) l
def L1(v0:List Rd)(v4:Int):Tr:=re ((T []))<|Ay 62 [(0,.dat (z8 zy) v0),(3,.nil),(4,.dat i64 v4)] [] 0
theorem Ak(l:List Rd):T l=L1 l 0:=by kernel_rfl
def L2(v0:List Rd)(v4 v5:Int):Tr:=re ((stepT MU<|L1 [] 0).L)<|Ay 62 [(0,.dat (z8 zy) v0),(3,.nil),(4,.dat i64 v4),(5,.dat i64 v5)] [] 0
theorem Al(v0:List Rd)(v4:Int):stepT MU (L1 v0 v4)=.di (v4<(length v0:Int)) (L2 v0 v4 0) (.ck true .fail):=by kernel_rfl
def L3(v0:List Rd)(a:Nat)(v4:Int)(b:List Rd):Tr:=re ((stepT MU<|L2 [] 0 0).R.L.L.L.L.L.L)<|Ay 62 [(0,.dat (z8 zy) v0),(3,.sl 0 1 0 a none),(4,.dat i64 v4)] [(0,.arr false 24 zy b)] 1
theorem AL(v0:List Rd)(v4 v5:Int):stepT MU (L2 v0 v4 v5)=.di (v5>0) .fail (.ck (decide (0<=v5)&&decide (0<=toNat v5)&&decide (toNat v5<=0))<|.ck (decide (0<=v4)&&decide (v4<(length v0:Int)))<|.ck (decide (0<=v5)&&true&&decide (toNat v5<=0)&&true)<|.ck true<|.ck (decide (1<=1)&&true&&true&&decide ((3*(0+1)+2000)*16<=562949953421312))<|.ck (decide (zq 0 1=length ([]++[]++[getD v0 (toNat v4) []]))&&decide ((3*zq 0 1+2000)*16<=562949953421312))<|L3 v0 1 (ze .i64<|v4+1)<|[]++[]++[getD v0 (toNat v4) []]++[]):=by kernel_rfl
def L4(v0:List Rd)(a:Nat)(v4 v5:Int)(b:List Rd):Tr:=re ((stepT MU<|L3 [] 0 0 []).L)<|Ay 62 [(0,.dat (z8 zy) v0),(3,.sl 0 1 0 a none),(4,.dat i64 v4),(5,.dat i64 v5)] [(0,.arr false 24 zy b)] 1
theorem BT(v0:List Rd)(a:Nat)(v4:Int)(b:List Rd):stepT MU (L3 v0 a v4 b)=let c:=yq (ze .i64<|(↑a:Int)-1) 2;let d:=yq (↑a:Int) 2;let b':=getD b (toNat<|ze .i64 d) [];let e:=getD b (toNat<|ze .i64 c) [];.di (v4<(length v0:Int)) (L4 v0 a v4 ((↑a:Int)) b) (.ck true<|.ck (decide (0<=ze .i64 c)&&decide (ze .i64 c<(↑a:Int)))<|.cd (toNat (ze .i64 c)<length b)<|.ck true<|.ck (decide (0<=ze .i64 d)&&decide (ze .i64 d<(↑a:Int)))<|.cd (toNat (ze .i64 d)<length b)<|.ck (Bk e&&Bk b')<|.ck (Bk<|C8 e b')<|.leaf (.dat zy<|oT<|C8 e b') []):=by kernel_rfl
theorem BU(v0:List Rd)(a:Nat)(v4 v5:Int)(b:List Rd):stepT MU (L4 v0 a v4 v5 b)=let b':=length<|take (toNat v5) b;let c:=ze .i64<|v5-1;let f:=decide (yr none a<=yr none a);let h:=decide (0<=v4)&&decide (v4<(length v0:Int));let d:=drop (zq 0<|toNat v5) b;let i:=yv a<|toNat v5;let g:=take i d;let h':=zq 0 b';let e:Tr:=.ck (decide (0<=v5)&&true&&decide (0<=toNat v5)&&decide (toNat v5<=yr none a)&&f&&true)<|.ck h<|.ck (decide (0<=v5)&&true&&true&&decide (toNat v5<=a)&&decide (a<=yr none a)&&f&&true)<|.ck (decide (0+toNat v5<=length b)&&true&&true&&decide ((3*(0+length (take (toNat v5) b))+2000)*16<=562949953421312))<|.ck (decide (1<=1)&&true&&decide (zq 0 b'=length ([]++take (toNat v5) b))&&decide ((3*(zq 0 b'+1)+2000)*16<=562949953421312))<|.ck (decide (zq 0 (toNat v5)+yv a (toNat v5)<=length b)&&true&&decide (zq h' 1=length ([]++take (toNat v5) b++[getD v0 (toNat v4) []]))&&decide ((3*(zq h' 1+length g)+2000)*16<=562949953421312))<|L3 v0 (zq (zq h' 1)<|length g) (ze .i64<|v4+1)<|[]++take (toNat v5) b++[getD v0 (toNat v4) []]++take i d;.di (v5>0) (.ck (decide (0<=ze .i64 (v5-1))&&decide (ze .i64 (v5-1)<(↑a:Int)))<|.cd (toNat c<length b)<|.ck h<|.ck (Bk (getD b (toNat c) [])&&Gx (getD v0 (toNat v4) []))<|.di (Cf (getD b (toNat c) []) (getD v0 (toNat v4) [])>0) (L4 v0 a v4 c b) e) e:=by kernel_rfl
end T11
end
open Go.Sp (BS)
theorem kF:CL AfI:=Aa T96.ok AI
theorem T39.ok:Af A5 39 Acg:=by
 refine BG kF<|fun(a:Rd) ha=>?_;exact zx (T39.Ak a) (zc (Ac ha<|TN.num af)<|zf<|z7 rfl rfl rfl)
theorem jM:CL MU:=Aa T15.ok<|Aa T16.ok<|Aa T39.ok AI
structure Ins(l:List BS)(i:Nat)(u:List BS):Prop where
 p:u.Perm (l.take i)
 s:(u.map Au).Pairwise fun a b=>a<=b
theorem Ins.len{l:List BS}{i:Nat}{u:List BS}(h:Ins l i u)(a:i<=l.length):u.length=i:=by
 rw[h.p.length_eq,ym];omega
theorem Ins.step{l:List BS}{i:Nat}{u:List BS}(h:Ins l i u){x:BS}{r:List BS}(n:l.drop i=x::r){k:Nat}(z:k<=u.length)(g:k=0\/Au (u.getD (k-1) [])<=Au x)(w:∀j,k<=j->j<u.length->Au x<Au (u.getD j [])):Ins l (i+1) (u.take k++x::u.drop k):=by
 refine⟨?_,?_⟩
 ·obtain⟨o,_,_⟩:=drop_cons (d:=([]:BS)) n;have e:l.take (i+1)=l.take i++[x]:=by
   have:=ya i l;rw[n]at this;have t:l[i]=x:=by
    have:=z6 o;rw[n]at this;exact(List.cons.inj this).1.symm
   rw[List.take_succ_eq_append_getElem o,t]
  rw[e];refine List.perm_middle.trans ?_;rw[ya];exact(h.p.cons x).trans (List.perm_append_singleton x _).symm
 ·have s:=h.s;rw[<-ya k u,yp,List.pairwise_append]at s;obtain⟨s1,s2,s3⟩:=s;rw[yp,List.map_cons,List.pairwise_append,List.pairwise_cons];have up:∀b∈(u.drop k).map Au,Au x<b:=fun b c=>by
   obtain⟨y,m,rfl⟩:=yh.1 c;obtain⟨j,hj,rfl⟩:=List.getElem_of_mem m;rw[List.length_drop]at hj;have:=w (k+j) ae ae;rw[zj,zr ae,yj]at this;rw[List.getElem_drop];exact this
  have v:∀a∈(u.take k).map Au,a<=Au x:=fun a f=>by
   rcases g with rfl|g
   ·simp at f
   ·by_cases q:k=0
    ·subst q;simp at f
    refine Rat.le_trans ?_ g;obtain⟨y,m,rfl⟩:=yh.1 f;obtain⟨j,hj,rfl⟩:=List.getElem_of_mem m;rw[ym]at hj;rw[List.getElem_take,zj,zr ae,yj];by_cases e:j=k-1
    ·subst e;exact Rat.le_refl
    ·have:=List.pairwise_iff_getElem.1 h.s j (k-1) (by rw[zi];omega) (by rw[zi];omega) ae;simpa using this
  refine⟨s1,⟨fun b c=>Rat.le_of_lt<|up b c,s2⟩,fun a f b c=>?_⟩;rcases yi.1 c with rfl|c
  ·exact v a f
  ·exact s3 a f b c
namespace T11
variable {Q:PV->Ob->Prop}{l:List BS}
theorem fin(ok:gD l)(d:∀ob,Q (.dat .str<|Sp.mdR l) ob){u:List BS}(h:Ins l l.length u):Ends MU (L3 l l.length (l.length:Int) u) Q:=by
 obtain⟨l0,l1,r⟩:=ok;have n0:0<l.length:=zk.2 l0;have w:=h.len<|yc _;have hp:u.Perm l:=by have:=h.p;rwa [List.take_length]at this
 have v:ze .i64 (yq (ze .i64<|(l.length:Int)-1) 2)=(((l.length-1)/2:Nat):Int):=by
  rw[wr ((l.length:Int)-1) ae ae,show(l.length:Int)-1=((l.length-1:Nat):Int)by omega];show ze .i64 (((l.length-1)/2:Nat):Int)=_;exact wr _ ae ae
 have g:ze .i64 (yq (l.length:Int) 2)=((l.length/2:Nat):Int):=by
  show ze .i64 ((l.length/2:Nat):Int)=_;exact wr _ ae ae
 have f:∀k,k<l.length->Sp.Nu 600 (u.getD k []) ((D4<|l.map Au).getD k 0):=fun k x=>by
  have c:k<u.length:=ae
  have es:u.map Au=D4 (l.map Au):=JM h.s (Il _)<|(hp.map _).trans (D1 _).symm;rw[<-es,zj,zj,List.getElem?_map,zr c];obtain⟨q,d⟩:=r _<|hp.mem_iff.1<|yk c;show Sp.Nu 600 u[k]<|Au u[k];rw[d.rat];exact d
 have a:=f ((l.length-1)/2) ae;have b:=f (l.length/2) ae;have s:=a.C8 b;have m:=s.Nr TN;have o:=OP (i:=(((l.length-1)/2:Nat):Int)) (n:=l.length) ae;have j:=OP (i:=((l.length/2:Nat):Int)) (n:=l.length) ae;refine zm (BT ..) (zz (w8 ae)<|zc rfl ?_);rw[v,g,zd,zd];refine zc o (zc (w4 ae)<|zc rfl (zc j<|zc (w4 ae)<|zc (Ac (a.num af)<|b.num af)<|zc (s.num af)<|zf ?_));have e:oT (C8 (u.getD ((l.length-1)/2) [])<|u.getD (l.length/2) [])=Sp.mdR l:=by
  show Nr _ _=_;rw[m.t];unfold Sp.mdR Gc pS;rw[Mk,zi];congr 1;grind
 rw[e];exact d _
theorem inner(ok:gD l){i:Nat}{u:List BS}(h:Ins l i u){x:BS}{r:List BS}(b:l.drop i=x::r)(A:∀v,Ins l (i+1) v->Ends MU (L3 l (i+1) ((i+1:Nat):Int) v) Q):∀k:Nat,k<=i->(∀j,k<=j->j<u.length->Au x<Au (u.getD j []))->Ends MU (L4 l i (i:Int) (k:Int) u) Q:=by
 obtain⟨l0,l1,w⟩:=ok;obtain⟨g1,g2,_⟩:=drop_cons (d:=([]:BS)) b;have s:=h.len ae;have y:=wn (i:=i) ae;have q:=OP (i:=(i:Int)) (n:=l.length) ae;obtain⟨qx,nx⟩:=w x (zn<|by rw[b];exact zh);intro k;induction k with
 |zero=>
  intro E c;have st:=A _<|h.step b (k:=0) (zo _) (.inl rfl)<|fun j B=>c j B;refine zm (BU ..) (zz (w8 ae) ?_);rw[zd,zd,g2,y];have g:zq (zq (zq 0 (zu 0 u).length) 1) (zu (yv i 0)<|yn (zq 0 0) u).length=i+1:=by simp;omega
  have o:[]++zu 0 u++[x]++zu (yv i 0) (yn (zq 0 0) u)=zu 0 u++x::yn 0 u:=by simp[<-s]
  rw[g,o];exact zc (by simp) (zc q<|zc (by simp)<|zc (by simp)<|zc (by simp)<|zc (by simp;omega) st)
 |succ k C=>
  intro E c;have D:ze .i64 (((k+1:Nat):Int)-1)=(k:Int):=by rw[wr _ ae ae];omega
  have a:k<u.length:=ae
  have F:u.getD k []∈l:=by
   rw[zj,zr a];exact List.mem_of_mem_take<|h.p.mem_iff.1<|yk a
  obtain⟨H,f⟩:=w _ F;have t:=f.cmp nx;refine zm (BU ..) (zc (w4 ae) ?_);rw[D,zd,zd,zd,g2,y];refine zc (OP ae) (zc (w4 a)<|zc q<|zc (Ac (f.num af)<|nx.Gx af)<|zp (fun z=>?_)<|fun z=>?_)
  ·have z:=w6 z;have lt:Au x<Au (u.getD k []):=by
    rw[nx.rat,f.rat];rw[t]at z;grind
   refine C ae fun j B m=>?_
   by_cases e:j=k
   ·subst e;exact lt
   ·exact c j ae m
  ·have z:=w7 z;have le:Au (u.getD k [])<=Au x:=by
    rw[nx.rat,f.rat];rw[t]at z;grind
   have st:=A _ (h.step b (k:=k+1) ae (.inr<|by rw[Nat.add_sub_cancel];exact le) c);have G:(zu (k+1) u).length=k+1:=by rw[ym];omega
   have g:zq (zq (zq 0 (zu (k+1) u).length) 1) (zu (yv i<|k+1)<|yn (zq 0<|k+1) u).length=i+1:=by simp;omega
   have o:[]++zu (k+1) u++[x]++zu (yv i<|k+1) (yn (zq 0<|k+1) u)=zu (k+1) u++x::yn (k+1) u:=by
    simp[<-s];exact zt (by rw[List.length_drop];exact yc _)
   rw[g,o];exact zc (by simp;omega) (zc q<|zc (by simp;omega)<|zc (by simp;omega)<|zc (by simp;omega)<|zc (by simp;omega) st)
theorem loop(ok:gD l)(b:∀ob,Q (.dat .str<|Sp.mdR l) ob):∀(k i:Nat) (u:List BS),i+k=l.length->Ins l i u->Ends MU (L3 l i (i:Int) u) Q
 |0,i,u,a,h=>by
  have a:i=l.length:=a;subst a;exact fin ok b h
 |k+1,i,u,a,h=>by
  have f:i<l.length:=ae
  have c:l.drop i=l[i]::l.drop (i+1):=z6 f;refine zm (BT ..) (zc (w4 ae) ?_);exact inner ok h c (fun v d=>loop ok b k (i+1) v ae d) i (yc _) (fun j g e=>by rw[h.len ae]at e;omega)
theorem ok:Af A5 11 qR:=by
 refine BG jM<|fun(l:List BS) hl=>?_;have ok:=xU hl;have n0:0<l.length:=zk.2 ok.1;have a:l.drop 0=l[0]::l.drop 1:=z6 n0;obtain⟨_,b,_⟩:=drop_cons (d:=([]:BS)) a;have c:Ins l 0 []:=⟨List.Perm.refl _,List.Pairwise.nil⟩;have st:=loop ok (Q:=Ad qR l) (fun ob=>z7 rfl rfl rfl) (l.length-1) 1 _ ae (c.step a (k:=0) (zo _) (.inl rfl) (fun j _ h=>by cases h));refine zx (Ak l) (zm (Al ..)<|zc (w4 ae) (zm (AL ..)<|zz rfl (zc rfl (zc (OP ae)<|zc rfl (zc rfl (zc rfl (zc rfl ?_)))))));rw[show Int.toNat 0=0 from rfl,b];exact st
end T11
section
open List Int Prod
namespace T93
def T(a:Ab):Tr:=tree Agb false 9 93<|Ag ([Ai]) a
theorem Ak(a:Ab):T a=let b:=Sh.nlist<|Sh.int IntKind.u64;.leaf (PV.agg [.dat i64<|fst<|fst a,.dat b<|snd<|fst a,.dat i64<|fst<|snd a,.dat b<|snd<|snd a]) []:=by kernel_rfl
end T93
namespace T7
def T(l:List Rd):Tr:=tree Uq false 9 7<|Ag ([z8 zy]) l
def L1(l:List Rd)(a:Nat)(v9:List Rd)(b c:Int)(d:List Ab):Tr:=re ((T l).L.R.L)<|Ay 23 [(3,.sl 0 4 0 a none),(9,.dat (z8 zy) v9),(10,.dat i64 b),(11,.dat i64 c)] [(0,.arr false 63 Ai d)] 1
theorem Ak(l:List Rd):T l=let a:=(length l:Int);.ck (decide (length l<=1000000)&&List.all l fun s=>decide (length s<=1000000)) (.ite (BK l !=0) (.leaf (.tup [.dat zy [],.dat i64<|BK l]) [])<|.ck (decide (0<=a)&&decide (a=a)&&decide (64*toNat a<=281474976710656)&&decide (a<9223372036854775808))<|L1 l (toNat a) l a 0<|replicate (toNat a) ((0,[]),0,[])):=by kernel_rfl
def L2(l:List Rd)(m:Nat)(v9:List Rd)(h n:Int)(q:List Ab)(i:Nat)(b:Int)(g:Int)(o:Int)(e:List Int)(a:Int)(d:List Int)(p c o1 f:Int)(j:List Ab):Tr:=re ((stepT Uq<|L1 l m v9 h n q).R.L)<|Ay 22 [(1,PV.fn (Go.Fn.func 93) [] []),(4,.ptr 2 0),(5,.ptr 3 0),(9,.sl 0 4 0 i none),(10,.dat i64 b),(11,.dat i64 g)] [(3,.box [.dat i64 o,.dat (Sh.nlist<|Sh.int IntKind.u64) e,.dat i64 a,.dat (Sh.nlist<|Sh.int IntKind.u64) d]),(2,.box [.dat i64 p,.nil,.dat i64 c,.nil]),(1,.box [.dat i64 o1,.nil,.dat i64 f,.nil]),(0,.arr false 63 Ai j)] 4
theorem Al(l:List Rd)(b:Nat)(v9:List Rd)(c a:Int)(d:List Ab):stepT Uq (L1 l b v9 c a d)=let e:=getD v9 (toNat a) [];.di (a<c) (.ck (decide (0<=a)&&decide (a<(length v9:Int)))<|.ck (Dc e)<|.ck (decide (0<=a)&&decide (a<(↑b:Int)))<|.cd (toNat a<length d)<|L1 l b v9 c (ze .i64<|a+1)<|set d (toNat a)<|BR e) (.ck true<|L2 l b v9 c a d b ((↑b:Int)) 0 0 (Bo 0) 1 (Bo 1) 0 0 0 0 d):=by kernel_rfl
theorem AL(l:List Rd)(d:Nat)(v9:List Rd)(o n:Int)(u:List Ab)(m:Nat)(b:Int)(a:Int)(s:Int)(e:List Int)(f:Int)(h:List Int)(t g o1 i:Int)(c:List Ab):stepT Uq (L2 l d v9 o n u m b a s e f h t g o1 i c)=let j:=((s,e),f,h);let b':=getD c (toNat a) ((0,[]),0,[]);let q:=((↑d:Int),Bo (↑d:Int));let r:=(q,1,Bo 1);let p:=Jb j r;.di (a<b) (.ck (decide (0<=a)&&decide (a<(↑m:Int)))<|.cd (toNat a<length c)<|.ck true<|.ck (Sp.B4 j&&Sp.B4 b')<|L2 l d v9 o n u m b (ze .i64<|a+1) (Kh j b') (Kt j b') (Kd j b') (Kq j b') t g o1 i c) (.ck true<|.ck (Sp.B4 j&&Sp.B4 r&&decide (Sp.vI q≠0))<|.ck (Sp.B8 p)<|.leaf (.tup [.dat zy<|MZ p,.dat i64<|Mt p]) []):=by kernel_rfl
end T7
namespace T10
def T(l:List Rd):Tr:=tree xG false 9 10<|Ag ([z8 zy]) l
def L1(l:List Rd)(v0:List Rd)(v3:Rd)(v4:Int):Tr:=re ((T l))<|Ay 18 [(0,.dat (z8 zy) v0),(3,.dat zy v3),(4,.dat i64 v4)] [] 0
theorem Ak(l:List Rd):T l=L1 l l ([(48:UInt8)]) 0:=by kernel_rfl
theorem Al(l:List Rd)(v0:List Rd)(v3:Rd)(v4:Int):stepT xG (L1 l v0 v3 v4)=let a:=decide (v4<(length v0:Int));let b':=(length l:Int);.ite a (.ck (decide (0<=v4)&&a)<|.ck (Bk v3&&Bk (getD v0 (toNat v4) []))<|L1 l v0 (C8 v3<|getD v0 (toNat v4) [])<|ze .i64<|v4+1) (.ck (YC b')<|.ck (Bk v3&&mB (Aau b'))<|.leaf (.dat zy<|TO v3<|Aau b') []):=by kernel_rfl
end T10
namespace T6
def T(l:List Rd):Tr:=tree jS false 9 6<|Ag ([z8 zy]) l
theorem Ak(l:List Rd):T l=.ite ((length l:Int)==0) (.leaf (.dat i64 (12:Int)) []) (.di ((length l:Int)>256) (.leaf (.dat i64 (5:Int)) [])<|.ck (decide (length l<=1000000)&&List.all l fun s=>decide (length s<=9223372036854775807))<|.leaf (.dat i64<|BW l) []):=by kernel_rfl
end T6
end
open Go.Sp (Gg)
theorem ZW{l:List Rd}(h:Nv l=true):(l.length<=1000000/\∀s∈l,s.length<=1000000)/\(BK l=0->O8 l<=1900):=by
 unfold Nv at h;rw[zg,zg,yf,w5,w5,w5,zl]at h;exact⟨⟨h.1.1,fun s a=>w6<|h.1.2 s a⟩,fun k=>h.2.resolve_left fun x=>x k⟩
theorem RQ{s:Rd}(h:Av s=0)(l:List Rd):O8 (s::l)=Sp.OS s+1+O8 l:=by rw[O8,wd h]
theorem pD:CL Agb:=fun g sp h=>by cases h
theorem T93.ok:Af A5 93 qQ:=by
 refine BG pD<|fun(a:(Int×List Int)×(Int×List Int)) _=>?_;exact zx (T93.Ak a)<|zf<|z7 rfl rfl rfl
theorem qV:CL Uq:=Aa T30.ok<|Aa T66.ok<|Aa T60.ok<|Aa T67.ok<|Aa T68.ok<|Aa T31.ok<|Aa T93.ok AI
namespace T7
theorem fill(l:List Rd)(q:l.length<=256)(hr:∀s∈l,Dc s=true)(f:∀o:List Ab,o.length=l.length->(∀j,j<l.length->o.getD j (((0:Int),[]),(0:Int),[])=BR (l.getD j []))->Ends Uq (L1 l l.length l (l.length:Int) (l.length:Int) o) Q):∀(r:List Rd) (i:Nat) (o:List Ab),l.drop i=r->i<=l.length->o.length=l.length->(∀j,j<i->o.getD j (((0:Int),[]),(0:Int),[])=BR (l.getD j []))->Ends Uq (L1 l l.length l (l.length:Int) (i:Int) o) Q
 |[],i,o,h,g,a,b=>by
  have e:i=l.length:=drop_nil h g;subst e;exact f o a b
 |s::r,i,o,h,g,a,b=>by
  obtain⟨u,c,v⟩:=drop_cons (d:=([]:Rd)) h;have t:=wn (i:=i) ae;have m:=nb (i:=i) (n:=l.length) ae;refine zm (Al ..) ?_;conv=>zeta
  rw[zd,c,t];refine zc (w4 ae) (zc m (zc (hr s<|zn<|by rw[h];exact zh ..)<|zc m<|zc (w4 ae)<|fill l q hr f r (i+1) _ v u (by rw[List.length_set];exact a) fun j p=>?_));rw[qX o i j _ _ ae];by_cases e:i=j
  ·subst e;rw[wd rfl,c]
  ·rw[wc e];exact b j ae
theorem sum(l:List Rd)(o q:List Ab)(v9:List Rd)(m c t a o1 b:Int)(D:l.length<=256)(G:o.length=l.length)(A:∀j,j<l.length->o.getD j (((0:Int),[]),(0:Int),[])=BR (l.getD j []))(u:∀s∈l,Av s=0):∀(r:List Rd) (i K:Nat) (f:Ab) (s:Rat),l.drop i=r->i<=l.length->RS K f s->K+O8 r<=3000->(∀g,RS (K+O8 r) g (s+Iy (El r))->Ends Uq (L2 l l.length v9 m c q l.length (l.length:Int) (l.length:Int) g.1.1 g.1.2 g.2.1 g.2.2 t a o1 b o) Q)->Ends Uq (L2 l l.length v9 m c q l.length (l.length:Int) (i:Int) f.1.1 f.1.2 f.2.1 f.2.2 t a o1 b o) Q
 |[],i,K,f,s,h,C,n,v,p=>by
  have e:i=l.length:=drop_nil h C;subst e;refine p f ?_;show RS K f<|s+0;rw[Rat.add_zero];exact n
 |x::r,i,K,f,s,h,C,n,v,p=>by
  obtain⟨B,H,F⟩:=drop_cons (d:=([]:Rd)) h;have y:=u x (zn<|by rw[h];exact zh ..);have I:=wn (i:=i) ae;have w:=F7 y;rw[RQ y]at v p;have z:=A i B;rw[H]at z;refine zm (AL ..) ?_;conv=>zeta
  rw[zd,z,I];refine zc (w4 ae) (zc (ad ae ae)<|zc (w4 ae)<|zc rfl (zc (n.N3 w ae ae) ?_));refine sum l o q v9 m c t a o1 b D G A u r (i+1) _ (BI f<|BR x) _ F B (n.add w ae ae) ae fun g J=>p g ?_
  have E:s+Iy (El (x::r))=s+Au x+Iy (El r):=by
   show s+(Au x+Iy (El r))=_;rw[Rat.add_assoc]
  rw[E];exact J.mono ae
theorem ok:Af A5 7 cMn:=by
 refine BG qV<|fun(l:List Rd) hi=>?_;obtain⟨⟨n,r⟩,q⟩:=ZW hi;refine zx (Ak l) (zc (Ac (w4 n)<|zl.2 fun s a=>w4<|r s a)<|zp (fun c=>zf<|z7 rfl rfl (rR (by simpa using c) _))<|fun c=>?_);have c:BK l=0:=by simpa using c
 obtain⟨p,m,h⟩:=Gg c;have i:0<l.length:=zk.2 p;have u:=q c;rw[zd];refine zc (Ac (Ac (Ac (w4 ae)<|w4 rfl)<|w4 ae)<|w4 ae) ?_;refine fill l m (fun s a=>(FU<|h s a).2) (fun o t b=>?_) l 0 _ rfl (zo _) (List.length_replicate ..) (fun j b=>wh b<|Nat.not_lt_zero _);refine zm (Al ..) (zz (w8 ae)<|zc rfl ?_);refine sum l o o l (l.length:Int) (l.length:Int) 0 0 0 0 m t b h l 0 1 ((0,Bo 0),(1,Bo 1)) 0 rfl (zo _) GJ ae fun g e=>?_
 rw[Rat.zero_add]at e;have f:RS 3 (((l.length:Int),Bo (l.length:Int)),((1:Int),Bo 1)) ((l.length:Int):Rat):=FV (k:=3) ae af af;have n0:((l.length:Int):Rat)≠0:=fun x=>by have:=zw.1 x;omega
 have d:=e.div f ae af n0;have ev:Iy (El l)/((l.length:Int):Rat)=VP l:=by
  unfold VP V4 El;rw[zi]
 rw[ev]at d;exact zm (AL ..) (zz (w8 ae)<|zc rfl (zc (e.ok3 f ae af n0)<|zc (d.B8 ae)<|zf<|z7 rfl rfl (qU d c)))
end T7
theorem uM:CL xG:=Aa T16.ok<|Aa T36.ok<|Aa T38.ok AI
namespace T10
theorem loop(l:List Rd)(u:l.length<=256)(f:0<l.length)(j:∀s∈l,Av s=0)(p:∀ob,Q (.dat .str<|Sp.mnR l) ob):∀(r:List Rd) (i K:Nat) (v:Rd) (s:Rat),l.drop i=r->i<=l.length->Sp.Nu K v s->K+O8 r<=1990->s+Iy (El r)=Iy (El l)->Ends xG (L1 l l v (i:Int)) Q
 |[],i,K,v,s,h,q,g,c,a=>by
  have e:i=l.length:=drop_nil h q;have a:s+0=Iy (El l):=a;rw[Rat.add_zero]at a;have b:YC (l.length:Int)=true:=w4 ae;have n0:((l.length:Int):Rat)≠0:=fun x=>by have:=zw.1 x;omega
  have m:=jP (n:=(l.length:Int)) (k:=3) ae af;have c:K<=1990:=by have c:K+0<=1990:=c;omega
  have d:=g.TO m n0;have ev:s/((l.length:Int):Rat)=VP l:=by
   rw[a];unfold VP V4 El;rw[zi]
  refine zm (Al ..) (zz (w8 ae)<|zc b ?_);refine zc (Ac (g.num ae)<|m.nz af n0)<|zf ?_;have w:TO v (Aau (l.length:Int))=Sp.mnR l:=by
   have:=d.t;rw[ev]at this;exact this
  rw[w];exact p _
 |x::r,i,K,v,s,h,q,g,c,a=>by
  obtain⟨C,A,z⟩:=drop_cons (d:=([]:Rd)) h;have o:=j x (zn<|by rw[h];exact zh ..);have B:=wn (i:=i) ae;have nx:=Uz o;rw[RQ o]at c;have y:s+Iy (El (x::r))=s+Au x+Iy (El r):=by
   show s+(Au x+Iy (El r))=_;rw[Rat.add_assoc]
  refine zm (Al ..) ?_;conv=>zeta
  rw[zd,A,B];exact zc (w4 ae) (zc (ad ae ae) (zc (Ac (g.num ae)<|nx.num ae) (loop l u f j p r (i+1) _ _ _ z C (g.C8 nx) ae<|by rw[<-y];exact a)))
theorem ok:Af A5 10 AeK:=by
 refine BG uM<|fun(l:List Rd) a=>?_;have a:(Nv l&&decide (BK l=0))=true:=a;rw[zg,w5]at a;obtain⟨d,b,c⟩:=Gg a.2;have e:=(ZW a.1).2 a.2;exact zx (Ak l) (loop l b (zk.2 d) c (fun ob=>z7 rfl rfl rfl) l 0 1 [48] 0 rfl (zo _) Zw ae (Rat.zero_add _))
end T10
theorem WR:CL jS:=Aa T14.ok<|Aa T13.ok AI
theorem T6.ok:Af A5 6 MY:=by
 refine BG WR<|fun(l:List Rd) a=>?_;have a:(decide (l.length<=1000000)&&l.all fun s=>decide (s.length<=1000000))=true:=a;rw[zg,w5,zl]at a;have hr:(decide (l.length<=1000000)&&l.all fun s=>decide (s.length<=9223372036854775807))=true:=Ac (w4 a.1) (zl.2 fun s f=>w4<|Nat.le_trans (w6<|a.2 s f) af);have b:∀e ob,e=BK l->Ad MY l (.dat i64 e) ob:=fun e ob h=>z7 rfl rfl h
 refine zx (T6.Ak l)<|zp (fun c=>zf<|b _ _ ?_)<|fun c=>zp (fun d=>zf<|b _ _ ?_)<|fun d=>zc hr<|zf<|b _ _ ?_
 ·have c:(l.length:Int)=0:=by simpa using c
  unfold BK;rw[wd<|List.length_eq_zero_iff.1 ae]
 ·have c:¬(l.length:Int)=0:=by simpa using c
  have d:=w6 d;unfold BK;rw[wc (fun e=>c<|by rw[e];rfl),wd ae]
 ·have c:¬(l.length:Int)=0:=by simpa using c
  have d:=w7 d;unfold BK;rw[wc (fun e=>c<|by rw[e];rfl),wc ae]
end Go.Pe
namespace Go.Sp
open Go.Pe (RS)
def Ih(k:Nat)(l:List BS):Prop:=∀s∈l,Nu k s<|Au s
theorem rJ{l:List BS}{n k:Nat}(h:Lf l (n:Int) (k:Int)=true):l.length<=n/\Ih k l:=by
 unfold Lf at h;rw[zg,w5,zl]at h;exact⟨by omega,fun s a=>(qD<|h.2 s a).1⟩
theorem XH{k:Nat}{s:BS}{q:Rat}(h:Nu k s q)(a:1<=k):OS s<=k:=by
 rw[h.t,Wk];have b:=CZ h.z.1 a;have c:=CZ h.z.2 a;omega
theorem Ij:∀ {l:List BS},(∀s∈l,Av s=0)->BW l=0
 |[],_=>rfl
 |s::l,h=>by
  rw[Gy,wc<|by rw[h s<|zh ..];decide];exact Ij fun x a=>h x<|yd _ a
theorem ZT{k:Nat}:∀ {l:List BS},(∀s∈l,OS s<=k)->O8 l<=(k+1)*l.length
 |[],_=>zo _
 |s::l,h=>by
  have b:=ZT (l:=l) fun x a=>h x<|yd _ a
  have c:=h s<|zh ..;have e:(k+1)*(s::l).length=(k+1)*l.length+(k+1):=Nat.mul_succ ..;rw[e,O8];split<;>omega
section
variable {l:List BS}{k:Nat}
theorem SE(h0:l≠[])(c:l.length<=256)(a:k<=600)(h:Ih k l):BK l=0:=by
 unfold BK;rw[wc h0,wc ae];exact Ij fun s b=>(h s b).check a
theorem Lp(d:l.length<=256)(c:1<=k)(b:k<=500)(h:Ih k l):Qy l=true:=by
 unfold Qy;rw[zg,zg,yf,w5,zl,zl];exact⟨⟨by omega,fun s a=>w4<|(h s a).len ae⟩,.inr fun s a=>w4<|Nat.le_trans (XH (h s a) c) b⟩
theorem Qc(d:l.length<=256)(c:1<=k)(e:(k+1)*l.length<=1900)(b:k<=1900)(h:Ih k l):Nv l=true:=by
 have t:=ZT (l:=l) (k:=k) fun s a=>XH (h s a) c
 unfold Nv;rw[zg,zg,yf,w5,w5,w5,zl];exact⟨⟨by omega,fun s a=>w4<|(h s a).len ae⟩,.inr ae⟩
theorem Abk:∀ {l:List BS},Ih k l->Cu ((k+1)*l.length+1) (Iy<|El l)
 |[],_=>Zw.z.mono<|Nat.succ_le_succ<|zo _
 |s::l,h=>by
  have a:=Abk (l:=l) fun x c=>h x<|yd _ c
  have b:=(h s<|zh ..).z.add a;refine b.mono ?_;rw[yb,Nat.mul_succ];omega
theorem UR(h0:l≠[])(a:l.length<=256)(h:Ih k l):Cu ((k+1)*l.length+4) (VP l):=by
 have n0:0<l.length:=zk.2 h0;have n1:(((l.length:Nat):Int):Rat)≠0:=fun x=>by have:=zw.1 x;omega
 have i:=(jP (n:=(l.length:Int)) (k:=3) ae af).z;have d:=(Abk h).div i n1;unfold VP V4;rw[show(El l).length=l.length from zi ..];exact d
theorem Mo(h0:l≠[])(f:k<=500)(d:1<=k)(h:Ih k l):Cu (k+k+2) (J7 l):=by
 have c:∀x∈l.map BR,RS k x (HX x):=fun x e=>by
  obtain⟨s,a,rfl⟩:=yh.1 e;have r:=(Go.Pe.F7<|(h s a).check ae).mono<|XH (h s a) d;rw[<-r.val];exact r
 have ev:(l.map BR).map HX=l.map Au:=by
  rw[yo];exact yg fun s a=>(Go.Pe.F7<|(h s a).check ae).val.symm
 have b:=Go.Pe.ZY (K:=k) ae (by rw[zi];exact zk.2 h0) c;rw[ev]at b;exact b.z
theorem op0{e:Int}{q:Rat}{k:Nat}(b:e=0)(h:Cu k q)(a:k<=600):Tu e q=AQ q/\TT e q=0:=by
 subst b;have r:=Nu.op h a;exact⟨r.1.t,r.2⟩
theorem UO(h0:l≠[])(b:l.length<=256)(c:(k+1)*l.length<=590)(a:k<=600)(h:Ih k l):U7 l=AQ (VP l)/\mnE l=0:=
 op0 (SE h0 b a h) (UR h0 b h) ae
theorem KS(h0:l≠[])(a:l.length<=256)(b:1<=k)(c:k<=290)(h:Ih k l):DD l=AQ (J7 l)/\Rw l=0:=
 op0 (SE h0 a ae h) (Mo h0 ae b h) ae
def Ey(l:List BS)(b:BS):List BS:=l.map fun s=>C8 s b
theorem cT(l:List BS)(b:BS):(Ey l b).map Au=(l.map Au).map (· +Au b):=by
 unfold Ey;rw[yo,yo];refine yg fun s _=>?_
 show Au (C8 s b)=Au s+Au b;exact CD _
theorem Zu{b:BS}{j:Nat}(h:Ih k l)(d:Nu j b (Au b)):Ih (k+j+1) (Ey l b):=fun x c=>by
 obtain⟨s,a,rfl⟩:=yh.1 c;have n:=(h s a).C8 d;rw[<-n.rat]at n;exact n
theorem Aab(h0:l≠[])(b:BS):J7 (Ey l b)=J7 l+Au b:=by
 unfold J7;rw[cT,bT<|by rw[zi];exact zk.2 h0]
theorem sum_add(c:Rat):∀l:List Rat,Iy (l.map (· +c))=Iy l+((l.length:Int):Rat)*c
 |[]=>by
  show(0:Rat)=0+((0:Int):Rat)*c;have e:((0:Int):Rat)=0:=rfl;rw[e];grind
 |x::l=>by
  have e:(((x::l).length:Int):Rat)=((l.length:Int):Rat)+1:=by
   rw[yb];show(((l.length+1:Nat):Int):Rat)=_;rw[Int.natCast_add,Rat.intCast_add];rfl
  show x+c+Iy (l.map (· +c))=x+Iy l+_;rw[sum_add c l,e];grind
theorem kC(h0:l≠[])(b:BS):VP (Ey l b)=VP l+Au b:=by
 have n0:0<l.length:=zk.2 h0;have n1:(((l.map Au).length:Int):Rat)≠0:=fun x=>by have:=zw.1 x;rw[zi]at this;omega
 have e:El (Ey l b)=(El l).map (· +Au b):=cT l b;have n1:(((El l).length:Int):Rat)≠0:=n1;unfold VP V4;rw[e,sum_add,zi];grind
theorem vF(l:List BS):J7 l.reverse=J7 l:=by
 unfold J7;rw[List.map_reverse];exact qL<|List.reverse_perm _
theorem Acz{j:Nat}{m:BS}{q:Rat}(h:Ih k l)(c:Nu j m q):l.countP (fun s=>decide (Cf s m<=0))=RI q (l.map Au):=by
 unfold RI;rw[List.countP_map];refine List.countP_congr fun s d=>?_
 show decide (Cf s m<=0)=true↔decide (Au s<=q)=true;rw[w5,w5,(h s d).cmp c];split
 ·next a=>exact⟨fun _=>Rat.le_of_lt a,fun _=>by decide⟩
 ·split
  ·next b=>exact⟨fun x=>wh x af,fun x=>wh b<|yt.2 x⟩
  ·next b=>exact⟨fun _=>yt.1 b,fun _=>by decide⟩
theorem Aea{j:Nat}{m:BS}{q:Rat}(h:Ih k l)(b:Nu j m q):l.countP (fun s=>decide (0<=Cf s m))=Sj q (l.map Au):=by
 unfold Sj;rw[List.countP_map];refine List.countP_congr fun s c=>?_
 show decide (0<=Cf s m)=true↔decide (q<=Au s)=true;rw[w5,w5,(h s c).cmp b];split
 ·next a=>exact⟨fun x=>wh x af,fun x=>wh a<|yt.2 x⟩
 ·next a=>exact⟨fun _=>yt.1 a,fun _=>by split<;>decide⟩
theorem half(h0:l≠[])(a:1<=k)(c:k<=290)(b:l.length<=256)(h:Ih k l):l.length<=2*l.countP (fun s=>decide (Cf s (DD l)<=0))/\l.length<=2*l.countP (fun s=>decide (0<=Cf s (DD l))):=by
 have n:Nu (k+k+2) (DD l) (J7 l):=by
  rw[(KS h0 b a c h).1];exact Vi (Mo h0 ae a h)
 rw[Acz h n,Aea h n];have e:=pR (l:=l.map Au) (by rw[zi];exact zk.2 h0);rw[zi]at e;exact e
theorem kD(b:BS):AQ (J7 l+Au b)=C8 (AQ<|J7 l) b:=by unfold C8;rw[CD]
theorem iG(b:BS):AQ (VP l+Au b)=C8 (AQ<|VP l) b:=by unfold C8;rw[CD]
end
end Go.Sp
namespace Go.Proofs.YtobmcolckeoejaaGreatDoor
open Go
set_option maxRecDepth 100000
theorem seatTie1:Tryz.prog.laidByTextLater [("math/bits.deBruijn32tab",Rows.laid_math_bits_deBruijn32tab),("math/bits.deBruijn64tab",Rows.laid_math_bits_deBruijn64tab),("internal/strconv.uint64pow10",Rows.laid_internal_strconv_uint64pow10),("unicode/utf8.acceptRanges",Rows.laid_unicode_utf8_acceptRanges),("strconv.ErrRange",Rows.laid_strconv_ErrRange),("strconv.ErrSyntax",Rows.laid_strconv_ErrSyntax)] [.data,.data,.data,.data,.sentinel,.sentinel] true:=
 Program.laidByTextLater_by_one 72 8 65 ag ag ag ag ag ag (fun _ _=>by kernel_rfl)
theorem noOwnUnsafe:Tryz.pinned.checked.prog.headLifts.contains "ownunsafe"=false:=by kernel_rfl
theorem fits1:Tryz.pinned.checked.prog.listedFits Rows.ratingMeansRow.laid=true:=by
 unfold Program.listedFits;rw[noOwnUnsafe];kernel_rfl
theorem ratingMeans_row_tie:Rows.ratingMeansRow.laidByTextAt .later Tryz.pinned [.data,.data,.data,.data,.sentinel,.sentinel,.pinned] true:=by
 refine ye rfl rfl seatTie1 rfl rfl rfl rfl (fun y a _e=>?_) fits1;simp only[Rows.ratingMeansRow,List.zip_cons_cons,List.zip_nil_right,yi,List.mem_nil_iff,or_false]at a;rcases a with rfl|rfl|rfl|rfl|rfl|rfl|rfl
 ·cases _e
 ·cases _e
 ·cases _e
 ·cases _e
 ·cases _e
 ·cases _e
 ·exact⟨by kernel_rfl,by kernel_rfl⟩
theorem ratingMiddles_row_tie:Rows.ratingMiddlesRow.laidByTextAt .later Tryz.pinned [.data,.data,.data,.data,.sentinel,.sentinel,.pinned] true:=by
 refine ye rfl rfl seatTie1 rfl rfl rfl rfl (fun y a _e=>?_) fits1;simp only[Rows.ratingMiddlesRow,List.zip_cons_cons,List.zip_nil_right,yi,List.mem_nil_iff,or_false]at a;rcases a with rfl|rfl|rfl|rfl|rfl|rfl|rfl
 ·cases _e
 ·cases _e
 ·cases _e
 ·cases _e
 ·cases _e
 ·cases _e
 ·exact⟨by kernel_rfl,by kernel_rfl⟩
end Go.Proofs.YtobmcolckeoejaaGreatDoor
