import Derived.Test.YtbmofcgiokkikaaGreatDoorX11
/- A part of a proof; no law is stated here. -/
open Go.Pe.Ends renaming tt -> zc, leaf -> zh, Ah -> zj, ite -> zl, ff -> zn, eq -> zz
open Go.Sp renaming B9 -> zd, val -> ze, A1 -> zw, gI -> qc, vI -> ql, preB -> qm, first -> qw
open Go.IntKind renaming wrap -> zf
open Int renaming toNat_natCast -> zg, mul_le_mul_of_nonneg_left -> zi, mul_le_mul_of_nonneg_right -> zq, tdiv_eq_ediv_of_nonneg -> zt, mul_add -> zu, lt_of_lt_of_le -> zy, mul_comm -> z6, le_of_lt -> z7, mul_nonneg -> z8, eq_ofNat_of_zero_le -> yf, mul_lt_mul_of_pos_right -> yh, tmod_eq_emod_of_nonneg -> yj, lt_of_mul_lt_mul_left -> ym, pow_succ -> yp, one_mul -> yq, lt_or_le -> yv, tdiv -> yw, emod_lt_of_pos -> yx, mul_one -> yy, mul_sub -> yz, mul_assoc -> y8, emod_nonneg -> qi, tmod -> qj, add_assoc -> qn, mul_zero -> qp, add_zero -> qq, zero_mul -> qt, pow_zero -> qu
open Bool renaming and_eq_true -> zk, true_and -> yn
open List renaming take_of_length_le -> zm, length_drop -> zo, replicate -> zp, length_take -> zr, length_append -> zx, length_eq_zero_iff -> ya, take_length -> yc, take_append_drop -> yd, dropWhile_cons -> ye, getD_eq_getElem?_getD -> yk, dropLast_concat_getLast -> yt, mem_cons -> y7, all_eq_true -> y9, drop -> qd, all_reverse -> qe, length_eq_one_iff -> qg, nil_append -> qh, all_cons -> qo
open Go.Pe.Ac renaming of -> yb
open UInt8 renaming toNat_inj -> yg
open Nat renaming sub -> yi, add_sub_cancel -> yo, le_refl -> yr, min_eq_left -> yu, zero_add -> qf, add -> qv
namespace Go.Sp
theorem Rn{l:List Int}(h:K2 l=true):l.length<=20000/\AA B9 l:=by
 unfold K2 at h;rw[zk,w5,y9]at h;exact⟨h.1,fun d a=>by
  grind⟩
theorem LO{l:List Int}(a:l.length<=20000)(c:AA B9 l):K2 l=true:=by
 unfold K2;rw[zk,w5,y9];exact⟨a,fun d b=>by
  have:=c d b;grind⟩
theorem Acg{l:List Int}(h:hR l=true):l.length<=9000/\AA B9 l:=by
 unfold hR at h;grind [Rn]
theorem cX{l:List Int}(b:l.length<=9000)(a:AA B9 l):hR l=true:=by
 unfold hR;rw[LO ae a,yn];grind
theorem BB{l:List Int}(h:Bb l=true):l.length<=20000/\AA B9 l/\nz l:=by
 unfold Bb at h;rw[zk]at h;have:=Rn h.1;exact⟨this.1,this.2,by
  have:=h.2;unfold nzW at this;have:l.getLast?≠some 0:=ah;exact this⟩
theorem qQ{l:List Int}(a:l.length<=20000)(b:AA B9 l)(c:nz l):Bb l=true:=by
 unfold Bb nzW;rw[LO a b,yn];exact w4 c
theorem Hs{l:List Int}(h:AA B9 l)(i:Nat):0<=l.getD i 0/\l.getD i 0<1000000000:=LA af h i
theorem F5{l:List Int}{x:Int}(h:AA B9 l)(a:0<=x/\x<1000000000):AA B9 (l++[x]):=(by grind [AA])
theorem CE(l:List Int)(x:Int):val B9 (l++[x])=val B9 l+(B9:Int)^l.length*x:=by
 grind [Df,val]
theorem M8(i:Nat)(c:Int):(B9:Int)^(i+1)*c=(B9:Int)^i*(1000000000*c):=by
 grind
theorem Fv{l:List Int}(h:AA B9 l):AD l=BW (Aq l):=cQ af h
theorem O8{n:Int}{k:Nat}(_:0<=n)(h:n<(B9:Int)^k):(BW n).length<=k:=by
 refine Pw B9 af k n.toNat n.toNat ?_;grind
theorem Gs{n:Int}{k:Nat}(h0:0<=n)(h:n<(B9:Int)^k)(d:k<=9000):Bb (BW n)=true/\hR (BW n)=true/\Aq (BW n)=n/\(BW n).length<=k:=by
 have a:=O8 h0 h;have c:=Gj (b:=B9) af n;grind [qQ,aY,Di,Bb,BW,hR,Aq]
end Go.Sp
variable {Q:Go.Pe.PV->Go.Pe.Ob->Prop}
namespace Go.Pe
open Sp
open Go.Det
theorem U5[Srt]:Cv wL:=fun g sp h=>by cases h
namespace T190
theorem Au[Srt]{Q:PV->Ob->Prop}:∀(n:Nat) (w:List Int),w.length=n->n<=20000->(∀ob,Q (.dat li<|AD w) ob)->Ends wL (L1 w) Q
 |0,w,e,_,b=>by
  have:w=[]:=ah;subst this;exact zj (Ak ..) (zn (by simp)<|zh<|b _)
 |n+1,w,e,g,b=>by
  obtain⟨p,x,rfl⟩:∃p x,w=p++[x]:=by
   have a:w≠[]:=ah
   exact⟨w.dropLast,w.getLast a,(yt a).symm⟩
  have hp:p.length=n:=ah
  have f:zf .i64 (((p++[x]).length:Int)-1)=(n:Int):=by grind [wr]
  have d:(p++[x]).getD n 0=x:=ah;have t1:(p++[x]).take n=p:=ah
  refine zj (Ak ..) (zc (by simp) ?_);rw[f,zg,d,t1];refine zc ah (zl (fun c=>zc ah ?_)<|fun c=>?_)
  ·have c:x=0:=ah
   subst c;rw[Jc]at b;exact Au n p hp ae b
  grind [Jp,Z2,zh]
theorem ok[Srt]:Af AY 190 T5:=by
 refine BA U5<|fun(w:List Int) a=>?_;have a:w.length<=20000:=w6 a;exact zz (Aj w)<|Au w.length w rfl a (fun ob=>yb rfl rfl rfl)
end T190
theorem TC[Srt]:Cv jM:=Aa T190.ok AB
theorem T149.ok[Srt]:Af AY 149 HL:=by
 refine BA TC<|fun(i:Bool×List Int) hi=>?_;obtain⟨n,w⟩:=i;refine zz (T149.Aj n w)<|zc hi<|zl (fun c=>zh<|yb rfl rfl ?_)<|fun c=>zh<|yb rfl rfl ?_
 ·show(decide (((AD w).length:Int)>0),AD w)=(CQ n w,AD w);unfold CQ;congr 1;grind [ya]
 grind [CQ,HL]
namespace T151
theorem Au[Srt]{Q:PV->Ob->Prop}(a b:List Int)(g:AA zd a)(f:AA zd b)(l:a.length=b.length)(m:b.length<=20000)(k:∀ob,Q (.dat i64<|CC (Aq a)<|Aq b) ob):∀(i:Nat),i<=a.length->a.drop i=b.drop i->Ends wL (L1 a b<|(i:Int)-1) Q
 |0,n,j=>by
  simp_all [CC,zj,Ak]
 |i+1,n,j=>by
  have o:(((i+1:Nat):Int)-1)=(i:Int):=ae
  have h:a.drop i=a.getD i 0::a.drop (i+1):=Cz ae;have db:b.drop i=b.getD i 0::a.drop (i+1):=by grind [Cz]
  rw[o];refine zj (Ak ..) (zc (by simp) ?_);refine zc ah (zc ah (zl (fun d=>?_)<|fun d=>zc ah<|zc ah<|zl (fun c=>?_)<|fun c=>?_))
  ·have d:=w6 d;have:=Kk (b:=zd) af g f h db d;simp_all [CC,Aq]
  ·have c:=w6 c;have:=Kk (b:=zd) af f g db h c;have e:CC (Aq a) (Aq b)=1:=by unfold CC Aq;omega
   simp_all
  ·rw[wr ((i:Int)-1) ae ae];exact Au a b g f l m k i ae ah
theorem ok[Srt]:Af AY 151 bF:=by
 refine BA U5<|fun(i:List Int×List Int) f=>?_;obtain⟨a,b⟩:=i;have f:(Bb a&&Bb b)=true:=f;rw[zk]at f;obtain⟨a1,a2,a3⟩:=BB f.1;obtain⟨b1,b2,b3⟩:=BB f.2;have g:∀ob,Ac bF (a,b) (.dat i64<|CC (Aq a)<|Aq b) ob:=fun ob=>yb rfl rfl rfl
 refine zz (Aj a b)<|zl (fun c=>zl (fun d=>?_)<|fun d=>?_)<|fun c=>?_
 ·simp_all [CC,Aq,E4]
 ·have d:=w7 d;have c:(a.length:Int)≠b.length:=ah
  have:=E4 (b:=zd) af b2 a2 a3 ae;have e:CC (Aq a) (Aq b)=1:=by
   unfold CC Aq;omega
  simp_all
 grind [wr,Au]
end T151
theorem fY{x y o c:Int}(b:0<=x/\x<1000000000)(d:0<=y/\y<1000000000)(g:0<=o/\o<1000000000)(f:0<=c/\c<1000000000):
  zf .i64 (zf .i64 (o+zf .i64 (x*y))+c)=o+x*y+c/\qj (o+x*y+c) 1000000000=(o+x*y+c) % 1000000000/\zf .i64 (yw (o+x*y+c) 1000000000)=(o+x*y+c)/1000000000/\
  (0<=(o+x*y+c)/1000000000/\(o+x*y+c)/1000000000<1000000000)/\(0<=(o+x*y+c) % 1000000000/\(o+x*y+c) % 1000000000<1000000000):=by
 have h0:0<=x*y:=z8 b.1 d.1;have e:x*y<=999999999*999999999:=by
  have a:=zi (show y<=999999999 by omega) b.1;omega
 grind [wr]
namespace T153
theorem A5[Srt](x y:List Int)(n i:Nat)(M:i<x.length)(C:n=x.length+y.length)(h:x.length<=9000)(l:y.length<=9000)(s:AA zd x)(r:AA zd y)(p:List Int)(hp:p.length=i+y.length)(a:AA zd p)
  (o:∀q c,q.length=i+y.length->AA zd q->(0<=c/\c<1000000000)->ze zd q+(zd:Int)^(i+y.length)*c=ze zd p+(zd:Int)^i*(x.getD i 0*ze zd y)->Ends jM (L1 x y n ((i+1:Nat):Int)<|(q++[c])++zp (n-(i+y.length+1)) 0) Q):∀(k j:Nat) (q:List Int) (c:Int),j+k=y.length->q.length=i+j->AA zd q->(0<=c/\c<1000000000)->ze zd q+(zd:Int)^(i+j)*c=ze zd (p.take<|i+j)+(zd:Int)^i*(x.getD i 0*ze zd (y.take j))->
  Ends jM (L2 x y n i c j<|q++(p.drop (i+j)++zp (n-(i+y.length)) 0)) Q
 |0,j,q,c,f,b,d,e,E=>by
  have f:j=y.length:=ae
  subst f;have m:zf .i64 ((i:Int)+(y.length:Int))=((i+y.length:Nat):Int):=by rw[wr _ ae ae];omega
  have g:zf .i64 ((i:Int)+1)=((i+1:Nat):Int):=by grind [wr]
  have L:p.drop (i+y.length)=[]:=ah;have H:(q++zp (n-(i+y.length)) (0:Int)).getD (i+y.length) 0=0:=by
   have:n-(i+y.length)=(n-(i+y.length+1))+1:=ae
   simp_all
  refine zj (Az ..) (zn (by simp) ?_);rw[m,g,zg,L,qh,H,Int.zero_add,wr c ae ae,J1 q n _ c b ae];refine zc (by simp;omega) (zc (by simp;omega) (zc (by simp;omega)<|zc (by simp;omega)<|o q c b d e ?_));grind
 |k+1,j,q,c,f,b,d,e,E=>by
  have F:=Hs s i;have A:=Hs r j;have G:=Hs a<|i+j;have N:p.drop (i+j)=p.getD (i+j) 0::p.drop (i+j+1):=Cz ae;have m:zf .i64 ((i:Int)+(j:Int))=((i+j:Nat):Int):=by rw[wr _ ae ae];omega
  have g:=wn (i:=j) ae;have J:(q++(p.drop (i+j)++zp (n-(i+y.length)) (0:Int))).getD (i+j) 0=p.getD (i+j) 0:=by
   grind [FD]
  have s1:∀z,(q++(p.drop (i+j)++zp (n-(i+y.length)) (0:Int))).set (i+j) z=(q++[z])++(p.drop (i+(j+1))++zp (n-(i+y.length)) 0):=by
   grind [DF]
  obtain⟨I,D,u,v,K⟩:=fY F A G e;refine zj (Az ..) (zc ah ?_);rw[m,g,zg,zg,zg,J,I,D,u,s1];have t1:(decide ((0:Int)<=((i+j:Nat):Int))&&decide (((i+j:Nat):Int)<(n:Int)))=true:=by simp;omega
  refine zc t1 (zc ah (zc ah<|zc (by simp;omega)<|zc rfl (zc t1<|zc ah<|zc rfl ?_)));refine A5 x y n i M C h l s r p hp a o k (j+1) _ _ ae (by simp;omega) (F5 d K) v ?_;have B:i+(j+1)=(i+j)+1:=ae
  have t:(zd:Int)^i*(x.getD i 0*((zd:Int)^j*y.getD j 0))=(zd:Int)^(i+j)*(x.getD i 0*y.getD j 0):=by
   grind
  have w:(p.getD (i+j) 0+x.getD i 0*y.getD j 0+c) % 1000000000+1000000000*((p.getD (i+j) 0+x.getD i 0*y.getD j 0+c)/1000000000)=x.getD i 0*y.getD j 0+p.getD (i+j) 0+c:=by
   omega
  rw[B,CE,b,M8,qn, <-zu,w,AK _ p<|i+j,AK _ y j,zu,zu,zu<|x.getD i 0,zu,t];omega
theorem Au[Srt](x y:List Int)(n:Nat)(j:n=x.length+y.length)(a:x.length<=9000)(b:y.length<=9000)(l:AA zd x)(g:AA zd y)(m:∀ob,Q (.dat li<|BW<|Aq x*Aq y) ob):∀(k i:Nat) (p:List Int),i+k=x.length->p.length=i+y.length->AA zd p->ze zd p=ze zd (x.take i)*ze zd y->
  Ends jM (L1 x y n i<|p++zp (n-(i+y.length)) 0) Q
 |0,i,p,h,hp,e,d=>by
  subst h;have r:Aq p=Aq x*Aq y:=by
   rw[yc]at d;exact d
  refine zj (Ak ..) (zn (by simp) ?_);grind [zc,zh,Fv]
 |k+1,i,p,h,hp,e,d=>by
  refine zj (Ak ..) (zc ah ?_);have:=A5 (Q:=Q) x y n i ae j a b l g p hp e (fun q c s f o r=>by
   have:=Au x y n j a b l g m k (i+1) (q++[c]) ae ah (F5 f o) (by
    grind [CE,AK])
   grind) y.length 0 (p.take i) 0 ae ah (AS e i) af (by simp[ze])
  rw[Nat.add_zero, <-List.append_assoc,yd]at this;omega
theorem ok[Srt]:Af AY 153 Z6:=by
 refine BA TC<|fun(i:List Int×List Int) a=>?_;obtain⟨x,y⟩:=i;have a:(Sp.hR x&&Sp.hR y)=true:=a;rw[zk]at a;obtain⟨x1,x2⟩:=Acg a.1;obtain⟨y1,y2⟩:=Acg a.2;have b:zf .i64 ((x.length:Int)+(y.length:Int))=((x.length+y.length:Nat):Int):=by grind [wr]
 refine zz (Aj x y) ?_;conv=>zeta
 rw[b,zg];refine zc (by simp;omega) ?_;have:=Au (Q:=Ac Z6 (x,y)) x y (x.length+y.length) rfl x1 y1 x2 y2 (fun ob=>yb rfl rfl rfl) x.length 0 (zp y.length 0) ae (by simp) (fun d c=>by grind) (by grind [NF,ze]);rw[qf,List.replicate_append_replicate,show y.length+(x.length+y.length-y.length)=x.length+y.length by omega]at this;omega
end T153
theorem eQ{r x d:Int}(a:0<d/\d<1000000000)(hr:0<=r/\r<d)(b:0<=x/\x<1000000000):
  zf .i64 (zf .i64 (r*1000000000)+x)=r*1000000000+x/\zf .i64 (yw (r*1000000000+x) d)=(r*1000000000+x)/d/\qj (r*1000000000+x) d=(r*1000000000+x) % d/\
  (0<=(r*1000000000+x)/d/\(r*1000000000+x)/d<1000000000)/\(0<=(r*1000000000+x) % d/\(r*1000000000+x) % d<d)/\(r*1000000000+x)/d*d+(r*1000000000+x) % d=r*1000000000+x:=by
 have h:=Int.mul_ediv_add_emod (r*1000000000+x) d;rw[z6]at h;have q0:0<=(r*1000000000+x)/d:=Int.ediv_nonneg ae ae;have q1:(r*1000000000+x)/d<1000000000:=Int.ediv_lt_of_lt_mul a.1 ae;refine⟨?_,?_,ah,⟨q0,q1⟩,⟨qi _ ae,yx _ a.1⟩,h⟩
 ·grind [wr]
 grind [wr]
namespace T189
theorem Au[Srt](a:List Int)(d:Int)(f:AA zd a)(e:0<d/\d<1000000000)(s:a.length<=20000)(j:∀q r ob,AA zd q->(0<=r/\r<d)->Aq a=Aq q*d+r->Q (.tup [.dat li<|AD q,.dat i64 r]) ob):∀(i:Nat) (q:List Int) (r:Int),i+q.length=a.length->AA zd q->(0<=r/\r<d)->ze zd (a.drop i)=ze zd q*d+r->
  Ends jM (L1 a d a.length r ((i:Int)-1)<|zp i 0++q) Q
 |0,q,r,p,b,hr,h=>by
  refine zj (Ak ..) (zn (by simp) ?_);grind [zc,zh,Aq]
 |i+1,q,r,p,b,hr,h=>by
  have u:(((i+1:Nat):Int)-1)=(i:Int):=ae
  have o:=Hs f i;obtain⟨n,k,g,t,m,v⟩:=eQ e hr o;have l:a.drop i=a.getD i 0::a.drop (i+1):=Cz ae;have es:∀x,(zp (i+1) (0:Int)++q).set i x=zp i 0++(x::q):=by
   grind [List.replicate_succ',DF]
  rw[u];refine zj (Ak ..) (zc (by simp) ?_);rw[zg,es,wr ((i:Int)-1) ae ae,n,k,g];refine zc ah (zc ah<|zc ah (zc ah<|zc ah ?_));refine Au a d f e s j i _ _ ah (fun x c=>?_) m ?_
  ·rcases y7.1 c with rfl|c
   ·exact t
   ·exact b x c
  ·rw[l];show a.getD i 0+(1000000000:Int)*ze zd (a.drop<|i+1)=((r*1000000000+a.getD i 0)/d+(1000000000:Int)*ze zd q)*d+(r*1000000000+a.getD i 0) % d;grind
theorem ok[Srt]:Af AY 189 Yz:=by
 refine BA TC<|fun(i:List Int×Int) c=>?_;obtain⟨a,d⟩:=i;have c:(K2 a&&decide (0<d)&&decide (d<1000000000))=true:=c;rw[zk,zk,w5,w5]at c;obtain⟨⟨ha,d0⟩,d1⟩:=c;obtain⟨hl,hda⟩:=Rn ha;refine zz (Aj a d) ?_;conv=>zeta
 rw[zg,wr ((a.length:Int)-1) ae ae];refine zc (by simp;omega) ?_;have:=Au (Q:=Ac Yz (a,d)) a d hda ⟨d0,d1⟩ hl (fun q r ob g hr f=>?_) a.length [] 0 (by simp) (fun x e=>by cases e) ae (by grind [ze])
 ·grind
 ·refine yb rfl rfl ?_;show(AD q,r)=(BW<|Aq a/d,Aq a % d);obtain⟨u1,u2⟩:=(Int.ediv_emod_unique (a:=Aq a) (b:=d) (r:=r) (q:=Aq q) d0).2 ah;grind [Fv]
end T189
theorem yF[Srt]:Cv Nw:=
 Aa T151.ok (Aa T190.ok<|Aa T189.ok<|Aa T153.ok AB)
theorem Vn{t x y w:Int}(c:0<=t/\t<1000000000)(f:0<=x/\x<1000000000)(i:0<=y/\y<1000000000)(h:0<=w/\w<=1000000000):
  zf .i64 (zf .i64 (t*x)+w)=t*x+w/\qj (t*x+w) 1000000000=(t*x+w) % 1000000000/\zf .i64 (yw (t*x+w) 1000000000)=(t*x+w)/1000000000/\
  zf .i64 ((t*x+w)/1000000000+1)=(t*x+w)/1000000000+1/\zf .i64 (y-(t*x+w) % 1000000000)=y-(t*x+w) % 1000000000/\(0<=(t*x+w)/1000000000/\(t*x+w)/1000000000<1000000000)/\(0<=(t*x+w) % 1000000000/\(t*x+w) % 1000000000<1000000000):=by
 have h0:0<=t*x:=z8 c.1 f.1;have g:t*x<=999999999*999999999:=by
  have a:=zi (show x<=999999999 by omega) c.1;have b:=zq (show t<=999999999 by omega) (show(0:Int)<=999999999 by omega);omega
 generalize t*x=P at*;have e:zf .i64 P=P:=wr _ ae ae;have d:yw (P+w) 1000000000=(P+w)/1000000000:=zt ae;refine⟨?_,yj ae,?_,wr _ ae ae,wr _ ae ae,by omega,by omega⟩
 ·rw[e];exact wr _ ae ae
 ·rw[d];exact wr _ ae ae
theorem fQ(w r:List Int)(i:Nat)(h:i<w.length):(w++r).getD i 0=w.getD i 0:=by
 rw[yk,yk,List.getElem?_append_left h]
namespace T147
theorem gW{lo w z:List Int}{h:Int}{j i:Nat}(a:lo.length=j)(b:i<w.length):(lo++(w++h::z)).getD (i+j) 0=w.getD i 0:=by
 rw[HA _ _ _ _ a,fQ _ _ _ b]
theorem sW{lo w z:List Int}{h:Int}{j i:Nat}(x:Int)(a:lo.length=j)(b:i<w.length):(lo++(w++h::z)).set (i+j) x=lo++(w.set i x++h::z):=by
 rw[Vt _ _ _ _ _ a,List.set_append_left _ _ b]
theorem gH{lo w z:List Int}{h:Int}{j n:Nat}(a:lo.length=j)(b:w.length=n):(lo++(w++h::z)).getD (n+j) 0=h:=by
 rw[HA _ _ _ _ a];exact FD _ _ _ _ b
theorem sH{lo w z:List Int}{h:Int}{j n:Nat}(x:Int)(a:lo.length=j)(b:w.length=n):(lo++(w++h::z)).set (n+j) x=lo++(w++x::z):=by
 rw[Vt _ _ _ _ _ a];congr 1;exact DF _ _ _ _ b
theorem Pa(w z:List Int)(h:Int)(a:ze zd z=0):ze zd (w++h::z)=ze zd w+(zd:Int)^w.length*h:=by
 rw[Df];show _+_*(h+(zd:Int)*ze zd z)=_;rw[a,qp,qq]
theorem CS[Srt](o a e:Nat)(A F v lo z:List Int)(n j:Nat)(t h' X:Int)(U:v.length=n)(B:n<=9000)(f:lo.length=j)(S:j<=9000)(C:n+j<a)(I:j<e)(x:j<A.length)(K:AA zd v)(L:ze zd z=0)(y:AA zd z)(R: -2000000000<=h'/\h'<=2000000000)
  (O:0<=X/\X<(zd:Int)^n) (u:a=j+n+1+z.length)
  (m:∀r:List Int,r.length=n+1+z.length->AA zd r->ze zd r=X->Ends Nw (L2 o v n a e (zf .i64<|(j:Int)-1) (A.set j t) (lo++r) F) Q):
  ∀(k i:Nat) (w:List Int) (c:Int),i+k=n->w.length=n->AA zd w->(0<=c/\c<=1)->ze zd w+(zd:Int)^n*h'=X-ze zd v+ze zd (v.take i)-(zd:Int)^i*c->
   Ends Nw (L5 o v n a e j t c i A (lo++(w++h'::z)) F) Q
 |0,i,w,c,G,s,q,P,J=>by
  have G:i=n:=ae
  subst G;have H:zf .i64 ((j:Int)+(i:Int))=((i+j:Nat):Int):=by rw[wr _ ae ae];omega
  have E:v.take i=v:=zm ae;rw[E]at J;have a1:=AH (b:=zd) af q;have a2:=Bz (b:=zd) af q;rw[s]at a2;have hp:=Bj (b:=zd) af i;have D:ze zd w+(zd:Int)^i*(h'+c)=X:=by rw[zu];omega
  have h:h'+c=0:=by
   rcases Int.lt_trichotomy (h'+c) 0 with g|g|g
   ·have:=zi (show h'+c<= -1 by omega)<|z7 hp;rw[Int.mul_neg,yy]at this;omega
   ·exact g
   ·have:=zi (show 1<=h'+c by omega)<|z7 hp;rw[yy]at this;omega
  have l:i+j<(lo++(w++h'::z)).length:=by simp;omega
  refine zj (D0 ..) (zn (by simp) ?_);rw[H,zg,zg,gH f s,sH _ f s,wr (h'+c) ae ae,h];have t1:(decide ((0:Int)<=((i+j:Nat):Int))&&decide (((i+j:Nat):Int)<(a:Int)))=true:=by simp;omega
  refine zc t1 (zc (w4 l)<|zc t1<|zc (w4 l)<|zc (by simp;omega)<|zc (w4 x)<|m _ (by simp;omega) (Hd q<|fun d p=>?_) ?_)
  ·rcases y7.1 p with rfl|p
   ·decide
   ·exact y d p
  ·rw[Pa _ _ _ L,s, <-D,h]
 |k+1,i,w,c,G,s,q,P,J=>by
  have V:=Hs K i;have Y:=Hs q i;have H:zf .i64 ((i:Int)+(j:Int))=((i+j:Nat):Int):=by rw[wr _ ae ae];omega
  have N:=wn (i:=i) ae;have M:zf .i64 (zf .i64 (w.getD i 0+v.getD i 0)+c)=w.getD i 0+v.getD i 0+c:=by
   rw[wr (w.getD i 0+v.getD i 0) ae ae];exact wr _ ae ae
  have T:qj (w.getD i 0+v.getD i 0+c) 1000000000=(w.getD i 0+v.getD i 0+c) % 1000000000:=yj ae;have D:zf .i64 (yw (w.getD i 0+v.getD i 0+c) 1000000000)=(w.getD i 0+v.getD i 0+c)/1000000000:=by
   rw[zt ae];exact wr _ ae ae
  have l:i+j<(lo++(w++h'::z)).length:=by simp;omega
  refine zj (D0 ..) (zc (by simp;omega) ?_);rw[H,N,zg,zg,gW f ae,sW _ f ae,M,T,D];have t1:(decide ((0:Int)<=((i+j:Nat):Int))&&decide (((i+j:Nat):Int)<(a:Int)))=true:=by simp;omega
  refine zc t1 (zc (w4 l)<|zc (by simp;omega)<|zc rfl (zc t1<|zc (w4 l)<|zc rfl ?_));refine CS o a e A F v lo z n j t h' X U B f S C I x K L y R O u m k (i+1) _ _ ae (by simp[s]) (HR q i<|by show 0<=_/\_<(1000000000:Int);omega) ae ?_;rw[Ih _ _ _ _ ae,M8,AK];have W:(zd:Int)^i*((w.getD i 0+v.getD i 0+c) % 1000000000-w.getD i 0)=(zd:Int)^i*v.getD i 0+(zd:Int)^i*c-(zd:Int)^i*(1000000000*((w.getD i 0+v.getD i 0+c)/1000000000)):=by
   rw[<-zu, <-yz];congr 1;omega
  omega
theorem Cc[Srt](g a b:Nat)(m u v lo z:List Int)(n j:Nat)(t h W:Int)(hn:v.length=n)(y:n<=9000)(e:lo.length=j)(Z:j<=9000)(A:n+j<a)(G:j<b)(r:j<m.length)(M:AA zd v)(X:0<=h/\h<1000000000)(q:a=j+n+1+z.length)(J:0<=t/\t<1000000000)
  (h0:∀(w:List Int) (h':Int),w.length=n->AA zd w->0<=h'->ze zd w+(zd:Int)^n*h'=W-t*ze zd v->Ends Nw (L2 g v n a b (zf .i64<|(j:Int)-1) (m.set j t) (lo++(w++h'::z)) u) Q)
  (H:∀(w:List Int) (h':Int),w.length=n->AA zd w->h'<0-> -2000000000<=h'->ze zd w+(zd:Int)^n*h'=W-t*ze zd v->Ends Nw (L5 g v n a b j (zf .i64<|t-1) 0 0 m (lo++(w++h'::z)) u) Q):
  ∀(k i:Nat) (w:List Int) (c:Int),i+k=n->w.length=n->AA zd w->(0<=c/\c<=1000000000)->ze zd w+(zd:Int)^n*h=W-t*ze zd (v.take i)+(zd:Int)^i*c->
   Ends Nw (L4 g v n a b j t c i m (lo++(w++h::z)) u) Q
 |0,i,w,c,E,l,p,K,I=>by
  have E:i=n:=ae
  subst E;have F:zf .i64 ((j:Int)+(i:Int))=((i+j:Nat):Int):=by rw[wr _ ae ae];omega
  have B:v.take i=v:=zm ae;rw[B]at I;have f:i+j<(lo++(w++h::z)).length:=by simp;omega
  have s:i+j<(lo++(w++(h-c)::z)).length:=by simp;omega
  have L:ze zd w+(zd:Int)^i*(h-c)=W-t*ze zd v:=by rw[yz];omega
  refine zj (B1 ..) (zn (by simp) ?_);rw[F,zg,zg,gH e l,wr (h-c) ae ae,sH _ e l,gH e l];have t1:(decide ((0:Int)<=((i+j:Nat):Int))&&decide (((i+j:Nat):Int)<(a:Int)))=true:=by simp;omega
  refine zc t1<|zc (w4 f)<|zc t1<|zc (w4 f)<|zc t1<|zc (w4 s)<|zl (fun d=>?_)<|fun d=>?_
  ·have d:=w6 d;exact H w (h-c) l p d ae L
  ·have d:=w7 d;exact zc (by simp;omega) (zc (w4 r)<|h0 w (h-c) l p ae L)
 |k+1,i,w,c,E,l,p,K,I=>by
  have O:=Hs M i;have Y:=Hs p i;obtain⟨T,m2,R,S,U,m6,m7⟩:=Vn J O Y K;have F:zf .i64 ((i:Int)+(j:Int))=((i+j:Nat):Int):=by rw[wr _ ae ae];omega
  have N:=wn (i:=i) ae;have f:i+j<(lo++(w++h::z)).length:=by simp;omega
  have t1:(decide ((0:Int)<=((i+j:Nat):Int))&&decide (((i+j:Nat):Int)<(a:Int)))=true:=by simp;omega
  have go:∀(x o:Int),(0<=x/\x<1000000000)->(0<=o/\o<=1000000000)->c+(x-w.getD i 0)=1000000000*o-t*v.getD i 0->Ends Nw (L4 g v n a b j t o ((i+1:Nat):Int) m (lo++(w.set i x++h::z)) u) Q:=by
   intro x o V D C;refine Cc g a b m u v lo z n j t h W hn y e Z A G r M X q J h0 H k (i+1) _ _ ae (by simp[l]) (HR p i V) D ?_;rw[Ih _ _ _ _ ae,M8,AK,zu t,Int.mul_left_comm t];have e6:(zd:Int)^i*c+(zd:Int)^i*(x-w.getD i 0)=(zd:Int)^i*(1000000000*o)-(zd:Int)^i*(t*v.getD i 0):=by
    rw[<-zu, <-yz,C]
   omega
  refine zj (B1 ..) (zc (by simp;omega) ?_);rw[F,N,zg,zg,gW e ae,T,m2,R,S,U,sW _ e ae,sW _ e ae];refine zc (by simp;omega)<|zc t1<|zc (w4 f)<|zc rfl (zc rfl (zl (fun d=>?_)<|fun d=>?_))
  ·have d:=w6 d;rw[wr (w.getD i 0-(t*v.getD i 0+c) % 1000000000+1000000000) ae ae];refine zc t1 (zc (w4 f)<|go _ _ ae ae ?_);generalize t*v.getD i 0=P at*;omega
  ·have d:=w7 d;refine zc t1 (zc (w4 f)<|go _ _ ae ae ?_);generalize t*v.getD i 0=P at*;omega
theorem Aac[Srt](i h f:Nat)(u D v lo e:List Int)(n j:Nat)(I:v.length=n)(m:n<=9000)(s:lo.length=j)(M:j<=9000)(hr:n+1<=e.length)(J:h=j+e.length)(A:j<f)(o:j<u.length)(C:AA zd v)(B:AA zd e)(E:ze zd (e.drop<|n+1)=0)
  (k:∀(q:Int) (r:List Int),r.length=e.length->AA zd r->(0<=q/\q<1000000000)->ze zd r<ze zd v->ze zd r=ze zd e-q*ze zd v->Ends Nw (L2 i v n h f (zf .i64<|(j:Int)-1) (u.set j q) (lo++r) D) Q)
  (q:Int) (L:0<=q/\q<1000000000) (N:ze zd e<(q+1)*ze zd v) (V:q*ze zd v<ze zd e+ze zd v):
  Ends Nw (L4 i v n h f j q 0 0 u (lo++e) D) Q:=by
 have l:e=e.take n++e.getD n 0::e.drop (n+1):=by
  rw[<-Cz ae];exact(yd n e).symm
 have gh:=Hs B n;have G:=AS B n;have z:=E0 B<|n+1;have y:(e.take n).length=n:=by rw[zr];omega
 have S:(e.drop<|n+1).length=e.length-(n+1):=zo ..;have hW:ze zd e=ze zd (e.take n)+(zd:Int)^n*e.getD n 0:=by
  conv=>lhs;rw[l]
  rw[Pa _ _ _ E,y]
 have p:=Bz (b:=zd) af C;rw[I]at p;have O:=AH (b:=zd) af C;have T:=AH (b:=zd) af B;have hp:=Bj (b:=zd) af n;rw[Int.add_mul,yq]at N;rw[l];refine Cc i h f u D v lo (e.drop<|n+1) n j q (e.getD n 0) (ze zd e) I m s M ae A o C gh ae L (fun w h' a b c d=>?_) (fun w h' a b c W d=>?_) n 0 (e.take n) 0 ae y G af (by rw[<-hW];simp[ze])
 ·have K:=AH (b:=zd) af b;have F:h'=0:=by
   rcases yv 0 h' with g|g
   ·have:=zi (show 1<=h' by omega)<|z7 hp;omega
   ·omega
  refine k q _ (by simp;omega) (Hd b<|fun x H=>?_) L ?_ ?_
  ·rcases y7.1 H with rfl|H
   ·rw[F];decide
   ·exact z x H
  ·rw[Pa _ _ _ E,a,d];omega
  ·rw[Pa _ _ _ E,a,d]
 ·have K:=Bz (b:=zd) af b;rw[a]at K;have t:ze zd e-q*ze zd v<0:=by
   have:=zi (show h'<= -1 by omega)<|z7 hp;rw[Int.mul_neg,yy]at this;omega
  have P:1<=q:=by
   rcases yv 0 q with g|g
   ·exact g
   ·have:q=0:=ae
    subst this;rw[qt]at t;omega
  rw[wr (q-1) ae ae];refine CS i h f u D v lo (e.drop<|n+1) n j (q-1) h' (ze zd e-q*ze zd v+ze zd v) I m s M ae A o C E z ae ae ae (fun r U b' R=>?_) n 0 w 0 ae a b af (by rw[d];simp[ze]<;>omega);refine k (q-1) r ae b' ae ae ?_;rw[R,Int.sub_mul,yq];omega
theorem Dr[Srt](l e i:Nat)(t x v lo h:List Int)(a2 a1 a0:List Int)(k j:Nat)(P:v.length=k+2)(D:k+2<=9000)(w:lo.length=j)(W:j<=9000)(hr:k+3<=h.length)(m:e=j+h.length)(I:j<i)(F:j<t.length)(y:AA zd v)(u:AA zd h)(M:ze zd (h.drop<|k+3)=0)(H:1<=v.getD (k+1) 0)
  (E:h.getD (k+2) 0<=v.getD (k+1) 0) (K:ze zd h<1000000000*ze zd v)
  (s:∀(q:Int) (r:List Int),r.length=h.length->AA zd r->(0<=q/\q<1000000000)->ze zd r<ze zd v->ze zd r=ze zd h-q*ze zd v->Ends Nw (L2 l v ((k+2:Nat):Int) e i (zf .i64<|(j:Int)-1) (t.set j q) (lo++r) x) Q):
  ∀(f:Nat) (q r:Int),0<=q->q<f->q<=2000000000000000000->(0<=r/\r<1000000000)->q*v.getD (k+1) 0+r=h.getD (k+2) 0*1000000000+h.getD (k+1) 0->ze zd h<(q+1)*ze zd v->
   Ends Nw (L3 l v ((k+2:Nat):Int) e i j a2 a1 a0 e v j ((k+2:Nat):Int) q r t (lo++h) x) Q
 |0,q,r,h0,hf,_,_,_,_=>by omega
 |f+1,q,r,h0,hf,V,hr1,X,O=>by
  have z:=Hs y k;have gv1:=Hs y<|k+1;have gu2:=Hs u k;have gu1:=Hs u<|k+1;have Z:=Bj (b:=zd) af k;have hW:=AbL zd h k ae M;have Y:=Aas zd v k P;have S:=AH (b:=zd) af<|AS u k;have o:=Bz (b:=zd) af<|AS u k;have A:=AH (b:=zd) af<|AS y k;have n:=Bz (b:=zd) af<|AS y k;have L:=AH (b:=zd) af y;rw[zr,yu ae]at o n;have exit:∀q R:Int,0<=q->q<1000000000->q*v.getD (k+1) 0+R=h.getD (k+2) 0*1000000000+h.getD (k+1) 0->ze zd h<(q+1)*ze zd v->q*v.getD k 0<=R*1000000000+h.getD k 0->Ends Nw (L4 l v ((k+2:Nat):Int) e i j q 0 0 t (lo++h) x) Q:=by
   intro q R q0 q1 N U J;refine Aac l e i t x v lo h (k+2) j P D w W hr m I F y u M s q ⟨q0,q1⟩ U ?_;rw[hW,Y];exact Xx Z ⟨A,n⟩ S ⟨q0,q1⟩ H z.1 N J
  have e1:zf .i64 (((k+2:Nat):Int)-2)=(k:Int):=by rw[wr _ ae ae];omega
  have e2:zf .i64 (((k+2:Nat):Int)-1)=((k+1:Nat):Int):=by rw[wr _ ae ae];omega
  have e3:zf .i64 (zf .i64 ((j:Int)+((k+2:Nat):Int))-2)=((k+j:Nat):Int):=by
   rw[wr ((j:Int)+((k+2:Nat):Int)) ae ae,wr _ ae ae];omega
  have g3:(lo++h).getD (k+j) 0=h.getD k 0:=HA _ _ _ _ w;have b1:(decide ((0:Int)<=((k+1:Nat):Int))&&decide (((k+1:Nat):Int)<(v.length:Int)))=true:=by simp;omega
  have C:ze zd h<q*ze zd v->Ends Nw (.ite (decide (zf .i64 (r+v.getD (k+1) 0)>=(1000000000:Int))) (L4 l v ((k+2:Nat):Int) e i j (zf .i64<|q-1) 0 0 t (lo++h) x)<|L3 l v ((k+2:Nat):Int) e i j a2 a1 a0 e v j ((k+2:Nat):Int) (zf .i64<|q-1) (zf .i64<|r+v.getD (k+1) 0) t (lo++h) x) Q:=by
   intro J;have hW0:=AH (b:=zd) af u;have hq1:1<=q:=by
    rcases yv 0 q with g|g
    ·exact g
    ·have:q=0:=ae
     subst this;rw[qt]at J;omega
   have G:(q-1)*v.getD (k+1) 0+(r+v.getD (k+1) 0)=h.getD (k+2) 0*1000000000+h.getD (k+1) 0:=by rw[Int.sub_mul,yq];omega
   have p:ze zd h<(q-1+1)*ze zd v:=by rw[show q-1+1=q by omega];exact J
   rw[wr (q-1) ae ae,wr (r+v.getD (k+1) 0) ae ae];refine zl (fun c=>?_)<|fun c=>?_
   ·have c:=w6 c;have T:q-1<1000000000:=by
     rcases yv (q-1) 1000000000 with g|g
     ·exact g
     ·have a:=zq g (show 0<=v.getD (k+1) 0 by omega);have b:=zq E (show(0:Int)<=1000000000 by omega);omega
    refine exit (q-1) _ ae T G p ?_;have a:=zi (show v.getD k 0<=999999999 by omega) (show 0<=q-1 by omega);omega
   ·have c:=w7 c;exact Dr l e i t x v lo h a2 a1 a0 k j P D w W hr m I F y u M H E K s f (q-1) _ ae ae ae ae G p
  refine zj (Be ..) ?_;conv=>zeta
  rw[e1,e2,e3,zg,zg,zg,g3];refine zl (fun c=>zc b1<|C ?_) (fun c=>zc (by simp;omega) (zc (by simp;omega)<|zc (by simp;omega)<|zl (fun d=>zc b1<|C ?_)<|fun d=>?_))
  ·have c:=w6 c;have:=zq c L;omega
  ·have c:=w7 c;have d:=w6 d;have a:=zi (show v.getD k 0<=999999999 by omega) h0;have b:=z8 h0 z.1;rw[wr (q*v.getD k 0) ae ae,wr (r*1000000000) ae ae,wr _ ae ae]at d;have:=VU (B:=zd) (u0:=h.getD (k+2) 0) (u1:=h.getD (k+1) 0) (u2:=h.getD k 0) Z A o h0 (v1:=v.getD (k+1) 0) (v2:=v.getD k 0) (r:=r) X d;rw[<-hW, <-Y]at this;exact this
  ·have c:=w7 c;have d:=w7 d;have a:=zi (show v.getD k 0<=999999999 by omega) h0;have b:=z8 h0 z.1;rw[wr (q*v.getD k 0) ae ae,wr (r*1000000000) ae ae,wr _ ae ae]at d;exact exit q r h0 ae X O ae
end T147
theorem G3{w:List Int}(c:AA zd w)(a:Sp.nz w){k:Nat}(b:w.length=k+1):0<w.getD k 0/\w.getD k 0<1000000000:=by
 have g:=Hs c k;refine⟨?_,g.2⟩;have e:w.getLast?=some (w.getD k 0):=by
  rw[List.getLast?_eq_getElem?,b,yo,yk,List.getElem?_eq_getElem ae];rfl
 unfold Sp.nz at a;rw[e]at a;have:w.getD k 0≠0:=fun h=>a (by rw[h])
 omega
theorem EH(d:Int):ze zd [d]=d:=by simp[ze]
namespace T147
theorem A5[Srt](v:List Int)(k h:Nat)(f:Int)(hf:0<f/\f<1000000000)(C:v.length=k+2)(S:h<=9000)(M:k+2<=h)(x:AA zd v)(H:1<=v.getD (k+1) 0)(X:Int)
  (hq:∀(u c:List Int) ob,AA zd u->AA zd c->ze zd u<ze zd v->X=ze zd u+ze zd v*ze zd c->Q (.tup [.dat li<|AD c,.dat li<|BW<|ze zd u/f]) ob):
  ∀(t:Nat) (u c:List Int),t+c.length=h-(k+2)+1->u.length=h+1->AA zd u->AA zd c->ze zd (u.drop t)<ze zd v->X=ze zd u+ze zd v*((zd:Int)^t*ze zd c)->
   Ends Nw (L2 1 v ((k+2:Nat):Int) (h+1) (h-(k+2)+1) ((t:Int)-1) (zp t 0++c) u [f]) Q
 |0,u,c,hl,L,s,A,p,U=>by
  have p:ze zd u<ze zd v:=p;have o:=Bz (b:=zd) af x;rw[C]at o;have E:ze zd (u.drop<|k+2)=0:=Kq (b:=zd) af s ae ae;have F:ze zd (u.take<|k+2)=ze zd u:=by
   rw[CB zd u (k+2) ae,E,qp,qq]
  have ht:(zp 0 0++c).take (h-(k+2)+1)=c:=by
   rw[List.replicate_zero,qh];exact zm ae
  have htr:=Il<|AS s<|k+2;have hlr:(AD<|u.take<|k+2).length<=9000:=by
   rw[Fv<|AS s<|k+2];refine Nat.le_trans (O8 (k:=k+2) (AH af<|AS s<|k+2) ?_) ae;show ze zd (u.take<|k+2)<_;rw[F];omega
  have W:Aq (AD<|u.take<|k+2)=ze zd u:=by
   show ze zd (AD _)=_;rw[Kx,F]
  refine zj (Az ..) (zn (by simp) ?_);rw[zg,ht,W];refine zc (by simp;omega) (zc rfl (zc rfl (zc (by simp;omega)<|zc (Ab (Ab (LO ae htr)<|w4 hf.1)<|w4 hf.2)<|zc (by simp;omega)<|zh<|hq u c _ s A p<|by rw[U,qu,yq])))
 |j+1,u,c,hl,L,s,A,p,U=>by
  obtain⟨lo,r,rfl,m⟩:∃lo r:List Int,u=lo++r/\lo.length=j:=⟨u.take j,u.drop j,(yd j u).symm,by rw[zr];omega⟩;have D:AA zd lo:=fun d g=>s d<|List.mem_append.2<|.inl g
  have e:AA zd r:=fun d g=>s d<|List.mem_append.2<|.inr g
  have hrl:r.length=h+1-j:=by rw[zx]at L;omega
  have n:∀z:List Int,(lo++z).drop j=z:=fun z=>by rw[<-m];exact List.drop_left
  have hr0:r=r.getD 0 0::r.drop 1:=by
   have:=Cz (l:=r) (i:=0) ae;rw[List.drop_zero]at this;exact this
  have O:(lo++r).drop (j+1)=r.drop 1:=by rw[Nat.add_comm j 1,Nat.add_comm 1 j, <-List.drop_drop,n]
  rw[O]at p;have g0:=Hs e 0;have P:ze zd r=r.getD 0 0+1000000000*ze zd (r.drop 1):=by
   conv=>lhs;rw[hr0]
   rfl
  have o:=Bz (b:=zd) af x;rw[C]at o;have N:ze zd r<1000000000*ze zd v:=by rw[P];omega
  have E:ze zd (r.drop<|k+3)=0:=by
   refine Kq (b:=zd) af e ae ?_;have ep:(zd:Int)^(k+3)=(zd:Int)^(k+2)*1000000000:=yp ..;rw[ep];omega
  have gu0:=Hs e<|k+2;have gu1:=Hs e<|k+1;have gu2:=Hs e k;have gv1:=Hs x<|k+1;have Z:=Hs x k;have hP:=Bj (b:=zd) af k;have hW:=AbL zd r k ae E;have hV:=Aas zd v k C;have w:=Bz (b:=zd) af<|AS e k;have R:=AH (b:=zd) af<|AS x k;rw[zr,yu ae]at w;have V:r.getD (k+2) 0<=v.getD (k+1) 0:=by
   have a1:=CB zd (r.drop 1) (k+1) (by rw[zo];omega);have a2:(r.drop 1).drop (k+1)=r.getD (k+2) 0::r.drop (k+3):=by
    rw[List.drop_drop,show 1+(k+1)=k+2 by omega];exact Cz ae
   have a3:ze zd (r.getD (k+2) 0::r.drop (k+3))=r.getD (k+2) 0:=by
    show r.getD (k+2) 0+(zd:Int)*ze zd (r.drop<|k+3)=_;rw[E];omega
   rw[a2,a3]at a1;have b1:ze zd v=ze zd (v.take<|k+1)+(zd:Int)^(k+1)*v.getD (k+1) 0:=by
    rw[<-AK,zm ae]
   have K:=Bz (b:=zd) af<|AS x<|k+1;rw[zr,yu ae]at K;have c1:=AH (b:=zd) af<|AS (E0 e 1)<|k+1;have c2:(zd:Int)^(k+1)*r.getD (k+2) 0<(zd:Int)^(k+1)*(v.getD (k+1) 0+1):=by
    rw[zu,yy];omega
   have:=ym c2 (z7<|Bj af<|k+1);omega
  have J:∀(q:Int) (B:List Int),B.length=r.length->AA zd B->(0<=q/\q<1000000000)->ze zd B<ze zd v->ze zd B=ze zd r-q*ze zd v->Ends Nw (L2 1 v ((k+2:Nat):Int) (h+1) (h-(k+2)+1) (zf .i64<|(j:Int)-1) ((zp (j+1) 0++c).set j q) (lo++B) [f]) Q:=by
   intro q B h1 h2 h3 h4 h5;have es:(zp (j+1) (0:Int)++c).set j q=zp j 0++(q::c):=by
    rw[List.replicate_succ',List.append_assoc];exact DF _ _ _ _ (by simp)
   rw[es,wr ((j:Int)-1) ae ae];refine A5 v k h f hf C S M x H X hq j (lo++B) (q::c) (by simp;omega) (by simp;omega) (Hd D h2) (fun d g=>?_) (by rw[n];exact h4) ?_
   ·rcases y7.1 g with rfl|g
    ·exact h3
    ·exact A d g
   ·rw[U,Df,Df,m,h5,M8];show ze zd lo+(zd:Int)^j*ze zd r+ze zd v*((zd:Int)^j*(1000000000*ze zd c))=ze zd lo+(zd:Int)^j*(ze zd r-q*ze zd v)+ze zd v*((zd:Int)^j*(q+1000000000*ze zd c));have x1:ze zd v*((zd:Int)^j*q)=(zd:Int)^j*(q*ze zd v):=by
     rw[Int.mul_left_comm,z6 (ze zd v) q]
    rw[yz,zu ((zd:Int)^j) q,zu<|ze zd v,x1];omega
  have e0:(((j+1:Nat):Int)-1)=(j:Int):=ae
  have W:zf .i64 ((j:Int)+((k+2:Nat):Int))=((k+2+j:Nat):Int):=by rw[wr _ ae ae];omega
  have e2:zf .i64 (((k+2+j:Nat):Int)-1)=((k+1+j:Nat):Int):=by rw[wr _ ae ae];omega
  have e3:zf .i64 (((k+2:Nat):Int)-1)=((k+1:Nat):Int):=by rw[wr _ ae ae];omega
  have g1:(lo++r).getD (k+2+j) 0=r.getD (k+2) 0:=HA _ _ _ _ m;have g2:(lo++r).getD (k+1+j) 0=r.getD (k+1) 0:=HA _ _ _ _ m;have hll:(lo++r).length=h+1:=L;have G:zf .i64 (zf .i64 (r.getD (k+2) 0*1000000000)+r.getD (k+1) 0)=r.getD (k+2) 0*1000000000+r.getD (k+1) 0:=by
   rw[wr (r.getD (k+2) 0*1000000000) ae ae];exact wr _ ae ae
  have a:0<=r.getD (k+2) 0*1000000000+r.getD (k+1) 0:=ae
  have I:0<=(r.getD (k+2) 0*1000000000+r.getD (k+1) 0)/v.getD (k+1) 0:=Int.ediv_nonneg a ae;have hqs:(r.getD (k+2) 0*1000000000+r.getD (k+1) 0)/v.getD (k+1) 0<=r.getD (k+2) 0*1000000000+r.getD (k+1) 0:=Int.ediv_le_self _ a;have y:=Int.mul_ediv_add_emod (r.getD (k+2) 0*1000000000+r.getD (k+1) 0)<|v.getD (k+1) 0;have T:=qi (r.getD (k+2) 0*1000000000+r.getD (k+1) 0) (show v.getD (k+1) 0≠0 by omega);have Y:=yx (r.getD (k+2) 0*1000000000+r.getD (k+1) 0) (show 0<v.getD (k+1) 0 by omega);rw[z6]at y;have et:zf .i64 (yw (r.getD (k+2) 0*1000000000+r.getD (k+1) 0)<|v.getD (k+1) 0)=(r.getD (k+2) 0*1000000000+r.getD (k+1) 0)/v.getD (k+1) 0:=by
   rw[zt a];exact wr _ ae ae
  have em:qj (r.getD (k+2) 0*1000000000+r.getD (k+1) 0) (v.getD (k+1) 0)=(r.getD (k+2) 0*1000000000+r.getD (k+1) 0) % v.getD (k+1) 0:=yj a;have K:(decide ((0:Int)<=((k+1:Nat):Int))&&decide (((k+1:Nat):Int)<((k+2:Nat):Int)))=true:=by simp;omega
  have bn:decide (v.getD (k+1) 0≠0)=true:=w4 ae;rw[e0];refine zj (Az ..) (zc (by simp) ?_);rw[C,W,e2,e3,zg,zg,zg,g1,g2,G,et,em,hll];refine zc (by simp;omega) (zc (w4 ae) (zc (by simp;omega)<|zc (w4 ae)<|zc K<|zc bn<|zc K<|zc bn ?_));refine Dr 1 (h+1) (h-(k+2)+1) _ [f] v lo r _ _ _ k j C ae m ae ae ae ae (by simp;omega) x e E H V N J (((r.getD (k+2) 0*1000000000+r.getD (k+1) 0)/v.getD (k+1) 0).toNat+1) _ _ I ae ae ⟨T,by omega⟩ y ?_;rw[hW,hV];exact Oa hP af I R Z.1 w gu2.2 y Y
theorem Au[Srt](a v:List Int)(n b:Nat)(f:Int)(h:a.length=b)(d:b<=9000)(i:n<=b)(k:∀u:List Int,u.length=b+1->AA zd u->ze zd u=ze zd a*f->Ends Nw (L2 1 v n (b+1) (b-n+1) (((b-n+1:Nat):Int)-1) (zp (b-n+1) 0) u [f]) Q):
  ∀(m:Nat) (u:List Int),u.length+m=b+1->AA zd u->ze zd u=ze zd a*f->Ends Nw (L1 a 1 v n u.length u [f]) Q
 |0,u,p,g,e=>by
  have j:zf .i64 ((a.length:Int)+1)=((b+1:Nat):Int):=by rw[wr _ ae ae];omega
  have o:zf .i64 ((u.length:Int)-(n:Int))=((b-n+1:Nat):Int):=by rw[wr _ ae ae];omega
  have l:zf .i64 (((b-n+1:Nat):Int)-1)=((b-n+1:Nat):Int)-1:=wr _ ae ae;refine zj (Ak ..) ?_;conv=>zeta
  rw[j,o,l,zg];refine zn (by simp;omega) (zc (by simp;omega) ?_);have c:u.length=b+1:=ae
  rw[c];exact k u c g e
 |m+1,u,p,g,e=>by
  have j:zf .i64 ((a.length:Int)+1)=((b+1:Nat):Int):=by rw[wr _ ae ae];omega
  refine zj (Ak ..) ?_;conv=>zeta
  rw[j];refine zc (by simp;omega) (zc (by simp;omega) ?_);have:=Au a v n b f h d i k m (u++[0]) (by simp;omega) (F5 g af) (by rw[CE,qp,qq];exact e);rw[zx]at this;exact this
set_option maxHeartbeats 1000000 in
theorem ok[Srt]:Af AY 147 Sw:=by
 refine BA yF<|fun(i:List Int×List Int) E=>?_;obtain⟨a,b⟩:=i;have E:(Bb a&&Bb b&&decide (a.length<=9000)&&decide (b.length<=9000)&&decide (0<Aq b))=true:=E;rw[zk,zk,zk,zk,w5,w5,w5]at E;obtain⟨⟨⟨⟨na,nb⟩,la9⟩,lb9⟩,j⟩:=E;obtain⟨_,da,za⟩:=BB na;obtain⟨_,db,zb⟩:=BB nb;have j:0<ze zd b:=j;have o:=AH (b:=zd) af da;have Z:∀q r ob,q=BW (Aq a/Aq b)->r=BW (Aq a % Aq b)->Ac Sw (a,b) (PV.tup [PV.dat li q,PV.dat li r]) ob:=fun q r ob T N=>yb rfl rfl (Prod.ext T N)
 have m:b≠[]:=by rintro rfl;simp[ze]at j
 have S:b.length≠0:=fun h=>m<|ya.1 h
 refine zz (Aj a b) (zc (by rw[na,nb];rfl)<|zl (fun c=>?_)<|fun c=>?_)
 ·have c:=w6 c;have w:ze zd a<ze zd b:=by
   unfold CC at c;have c:(if ze zd a<ze zd b then(-1:Int)else if ze zd a>ze zd b then 1 else 0)<0:=c;split at c
   ·assumption
   ·split at c<;>omega
  refine zh<|yb rfl rfl ?_;show([],a)=(BW<|ze zd a/ze zd b,BW<|ze zd a % ze zd b);rw[Int.ediv_eq_zero_of_lt o w,Int.emod_eq_of_lt o w];exact Prod.ext rfl (I5 af da za)
 ·have c:=w7 c;have hge:ze zd b<=ze zd a:=by
   rcases yv (ze zd a) (ze zd b)with g|g
   ·have:CC (Aq a) (Aq b)= -1:=wd g;omega
   ·exact g
  have hll:b.length<=a.length:=by
   rcases Nat.lt_or_ge a.length b.length with g|g
   ·have:=E4 (b:=zd) af da db zb g;omega
   ·exact g
  refine zl (fun s=>?_)<|fun s=>?_
  ·have s:b.length=1:=by
    have:(b.length:Int)=1:=by simpa using s
    omega
   obtain⟨d,rfl⟩:=qg.1 s;have F:0<d/\d<1000000000:=G3 (k:=0) db zb rfl;have m0:=qi (ze zd a) (show d≠0 by omega);have m1:=yx (ze zd a) F.1;refine zc rfl (zc (Ab (Ab (LO ae da)<|w4 F.1)<|w4 F.2)<|zc rfl (zh<|Z _ _ _ ?_ ?_))
   ·show BW (ze zd a/d)=BW (ze zd a/ze zd [d]);rw[EH]
   ·show AD [ze zd a % d]=BW (ze zd a % ze zd [d]);rw[EH,Fv<|fun x p=>by rw[List.mem_singleton]at p;subst p;show 0<=_/\_<(1000000000:Int);omega];show BW (ze zd [_])=_;rw[EH]
  ·have s:b.length≠1:=by
    have:(b.length:Int)≠1:=by simpa using s
    omega
   obtain⟨k,C⟩:∃k,b.length=k+2:=⟨b.length-2,by omega⟩;obtain⟨y0,y1⟩:=G3 (k:=k+1) db zb C;have T:zf .i64 (((k+2:Nat):Int)-1)=((k+1:Nat):Int):=by rw[wr _ ae ae];omega
   have N:zf .i64 (b.getD (k+1) 0+1)=b.getD (k+1) 0+1:=wr _ ae ae;have f0:0<1000000000/(b.getD (k+1) 0+1):=by
    have:=Int.le_ediv_of_mul_le (a:=1) (b:=1000000000) (c:=b.getD (k+1) 0+1) ae ae;omega
   have f1:1000000000/(b.getD (k+1) 0+1)<1000000000:=Int.ediv_lt_of_lt_mul ae ae;have f2:1000000000/(b.getD (k+1) 0+1)*(b.getD (k+1) 0+1)<=1000000000:=Int.ediv_mul_le _ ae;have e3:zf .i64 (yw 1000000000<|b.getD (k+1) 0+1)=1000000000/(b.getD (k+1) 0+1):=by
    rw[zt af];exact wr _ ae ae
   rw[C,T,zg,N,e3];generalize 1000000000/(b.getD (k+1) 0+1)=f at*;have M:AA zd [f]:=fun x p=>by rw[List.mem_singleton]at p;subst p;show 0<=_/\_<(1000000000:Int);omega
   have I:Aq [f]=f:=EH f;rw[I];have R:(zd:Int)^(k+1)<=ze zd b*f:=by
    have a1:=Dw (b:=zd) af db zb m;rw[C,show k+2-1=k+1 by omega]at a1;have a2:=zi (show 1<=f by omega)<|z7 j;omega
   have G:ze zd b*f<(zd:Int)^(k+2):=by
    have b1:ze zd b=ze zd (b.take<|k+1)+(zd:Int)^(k+1)*b.getD (k+1) 0:=by
     rw[<-AK,zm ae]
    have b2:=Bz (b:=zd) af<|AS db<|k+1;rw[zr,yu ae]at b2;have hp:=Bj (b:=zd) af<|k+1;have b3:ze zd b<(zd:Int)^(k+1)*(b.getD (k+1) 0+1):=by
     rw[zu,yy];omega
    have b4:=yh b3 f0;have b5:=zi f2<|z7 hp;have b6:(zd:Int)^(k+2)=(zd:Int)^(k+1)*1000000000:=yp ..;rw[y8,z6 (b.getD (k+1) 0+1) f]at b4;omega
   have K:0<=ze zd b*f:=z8 (z7 j) ae;have B:0<=ze zd a*f:=z8 o ae;have L:ze zd a*f<(zd:Int)^(a.length+1):=by
    have a1:=Bz (b:=zd) af da;have a2:=yh a1 f0;have a3:=zi (show f<=1000000000 by omega) (z7 (Bj (b:=zd) af a.length));have a4:(zd:Int)^(a.length+1)=(zd:Int)^a.length*1000000000:=yp ..;omega
   have vd:=Gj (b:=zd) af<|ze zd b*f;have vz:=aY (b:=zd) af<|ze zd b*f;have D:ze zd (Sp.dg zd<|ze zd b*f)=ze zd b*f:=Di af K;have U:=lK (b:=zd) af vd vz (k:=k+1) (by rw[D];exact R) (by rw[D];exact G);have v1:=(G3 vd vz U).1;have ud:=Gj (b:=zd) af<|ze zd a*f;have uv:ze zd (Sp.dg zd<|ze zd a*f)=ze zd a*f:=Di af B;have V:=O8 (k:=a.length+1) B L;have A:Sp.hR [f]=true:=cX (by simp) M;have bd:decide ((3*(0+(BW<|Aq a*f).length)+2000)*8<=562949953421312)=true:=w4 (by have:(BW<|Aq a*f).length<=a.length+1:=V;omega);refine zc (by simp;omega) (zc (w4 ae)<|zc (by rw[cX lb9 db,A];rfl)<|zc (by rw[cX la9 da,A];rfl)<|zc bd ?_);have ez:qv 0 (BW<|Aq a*f).length=(BW<|Aq a*f).length:=qf _;have y:(BW<|Aq b*f).length=k+2:=U;rw[ez,qh,y];refine Au a (BW<|Aq b*f) (k+2) a.length f rfl la9 ae (fun u J v H=>?_) (a.length+1-(BW<|Aq a*f).length) (BW<|Aq a*f) (by have:(BW<|Aq a*f).length<=a.length+1:=V;omega) ud uv;have t:=Bj (b:=zd) af<|a.length-(k+2)+1;have start:ze zd (u.drop<|a.length-(k+2)+1)<ze zd (BW<|Aq b*f):=by
    have a1:=CB zd u (a.length-(k+2)+1) ae;have a2:=AH (b:=zd) af<|AS v<|a.length-(k+2)+1;have a3:=Bz (b:=zd) af da;have a4:=yh a3 f0;have a5:(zd:Int)^a.length=(zd:Int)^(a.length-(k+2)+1)*(zd:Int)^(k+1):=by rw[<-Int.pow_add,show a.length-(k+2)+1+(k+1)=a.length by omega]
    have W:=Dw (b:=zd) af db zb m;rw[C,show k+2-1=k+1 by omega]at W;have a7:=zq W (show 0<=f by omega);have a8:=zi a7<|z7 t;rw[a5,y8]at a4;show _<ze zd (Sp.dg zd<|ze zd b*f);rw[D];refine ym (a:=(zd:Int)^(a.length-(k+2)+1)) ?_<|z7 t;omega
   have go:=A5 (Q:=Ac Sw (a,b)) (BW<|Aq b*f) k a.length f ⟨f0,f1⟩ y la9 ae vd (by have:0<(BW<|Aq b*f).getD (k+1) 0:=v1;omega) (ze zd a*f) (fun Y n ob z O l X=>by
    have P:ze zd (BW<|Aq b*f)=ze zd b*f:=D;rw[P]at X l;have e:ze zd Y=f*(ze zd a-ze zd n*ze zd b):=by
     have x1:ze zd b*f*ze zd n=f*(ze zd n*ze zd b):=by
      rw[z6 (ze zd b) f,y8,z6<|ze zd b]
     rw[x1,z6<|ze zd a]at X;rw[yz];omega
    have h0:=AH (b:=zd) af z;have r0:0<=ze zd a-ze zd n*ze zd b:=by
     rw[e]at h0;exact Int.nonneg_of_mul_nonneg_right h0 f0
    have r1:ze zd a-ze zd n*ze zd b<ze zd b:=by
     rw[e,z6 (ze zd b) f]at l;exact ym l ae
    obtain⟨u1,u2⟩:=(Int.ediv_emod_unique (a:=ze zd a) (b:=ze zd b) (r:=ze zd a-ze zd n*ze zd b) (q:=ze zd n) j).2 ⟨by rw[z6<|ze zd b];omega,r0,r1⟩;refine Z _ _ ob ?_ ?_
    ·rw[Fv O];show BW (ze zd n)=BW (ze zd a/ze zd b);rw[u1]
    ·show BW (ze zd Y/f)=BW (ze zd a % ze zd b);rw[u2,e,Int.mul_ediv_cancel_left _ ae]) (a.length-(k+2)+1) u [] (by simp) J v (fun x p=>by cases p) start (by rw[H];simp[ze])
   rw[List.append_nil]at go;exact go
end T147
theorem AaN[Srt]:Cv XG3:=Aa T147.ok AB
namespace T141
theorem Au[Srt](g:Nat)(L:Int)(c:∀n:Nat,(n:Int)<L->Bb (BW (n:Int))=true/\Aq (BW (n:Int))=n/\(BW (n:Int)).length<=9000)(d:∀ob,Q (.dat li<|BW (g:Int)) ob):∀(f x y:Nat),y<f->Nat.gcd x y=g->(x:Int)<L->(y:Int)<L->
  Ends XG3 (L1 (BW (x:Int))<|BW (y:Int)) Q
 |0,x,y,h,_,_,_=>by omega
 |f+1,x,y,l,b,e,a=>by
  obtain⟨nx,j,k⟩:=c x e;obtain⟨ny,vy,ly⟩:=c y a
  refine zj (Ak ..) ?_;conv=>zeta
  by_cases h0:y=0
  ·subst h0;rw[Nat.gcd_zero_right]at b;subst b;exact zn rfl (zh<|d _)
  ·have i:x % y<y:=Nat.mod_lt _ ae;have m:(BW (y:Int)).length≠0:=by
    intro h;have:=ya.1 h;rw[this]at vy;simp[Aq,ze]at vy;omega
   rw[j,vy,Xb];refine zc (by simp;omega) (zc (Ab (Ab (Ab (Ab nx ny)<|w4 k)<|w4 ly)<|w4 ae) ?_);exact Au g L c d f y (x % y) ae (by rw[Nat.gcd_comm, <-Nat.gcd_rec,Nat.gcd_comm];exact b) a ae
theorem WD{a:List Int}(h:Bb a=true):a=BW (Aq a)/\0<=Aq a:=by
 obtain⟨_,d,z⟩:=BB h;exact⟨I5 af d z,AH af d⟩
theorem X3(n:Nat)(h:(n:Int)<(zd:Int)^9000):Bb (BW (n:Int))=true/\Aq (BW (n:Int))=n/\(BW (n:Int)).length<=9000:=by
 obtain⟨a,_,b,c⟩:=Gs (n:=(n:Int)) (k:=9000) (Int.natCast_nonneg n) h af;exact⟨a,b,c⟩
theorem ok[Srt]:Af AY 141 MC:=by
 refine BA AaN<|fun(i:List Int×List Int) d=>?_;obtain⟨a,b⟩:=i;have d:(Bb a&&Bb b&&decide (a.length<=9000)&&decide (b.length<=9000))=true:=d;rw[zk,zk,zk,w5,w5]at d;obtain⟨⟨⟨na,nb⟩,la9⟩,lb9⟩:=d;obtain⟨ea,a0⟩:=WD na;obtain⟨eb,b0⟩:=WD nb;have h:Aq a<(zd:Int)^9000:=zy (Bz (b:=zd) af (BB na).2.1) (AT af la9);have g:Aq b<(zd:Int)^9000:=zy (Bz (b:=zd) af (BB nb).2.1) (AT af lb9);have key:∀(x y:Nat),Aq a=x->Aq b=y->Ends XG3 (L1 a b) (Ac MC (a,b)):=by
  intro x y c f;rw[ea,eb,c,f];rw[c]at h;rw[f]at g;refine Au (Nat.gcd x y) _ X3 (fun ob=>yb rfl rfl ?_) (y+1) x y (Nat.lt_succ_self _) rfl h g;have e:qc (Aq<|BW (x:Int)) (Aq<|BW (y:Int))=((Nat.gcd x y:Nat):Int):=by
   rw[(X3 x h).2.1,(X3 y g).2.1,GJ];rfl
  exact wi BW e.symm
 obtain⟨x,c⟩:=yf a0;obtain⟨y,f⟩:=yf b0;exact zz (Aj a b)<|key x y c f
end T141
theorem Abq[Srt]:Cv iM:=
 Aa (HE ag<|Bd ag) (Aa (HE ag<|Bd ag)<|Aa (HE ag<|Bd ag)<|Aa (HE ag<|Bd ag) AB)
theorem Fi[Srt]:Cv Pr:=fun g sp h=>by cases h
namespace T236
theorem Agh:∀i:Fin 10,(DL.getD i.1 0).toNat<128:=af
theorem Fh[Srt](s:Rd)(i:Nat)(o:List Bool)(c:i<10)(d:o.length=256)(h:Ends iM (L2 s DL DL ((i+1:Nat):Int)<|o.set (DL.getD i 0).toNat true) Q):Ends iM (L2 s DL DL (i:Int) o) Q:=by
 have b:DL.length=10:=rfl;have a:=Agh ⟨i,c⟩;have a:(DL.getD i 0).toNat<128:=a;have e:=wn (i:=i) ae;refine zj (Az ..) ?_;conv=>zeta
 rw[b,e,zg,zg];exact zc (w4 ae) (zc (ad ae ae) (zn (w8 ae)<|zc (Ab (w4<|show(0:Int)<=((DL.getD i 0).toNat:Int)by omega)<|w4 ae) (zc (w4 ae) h)))
def Tb(o:List Bool):Prop:=o.length=256/\∀c:UInt8,o.getD c.toNat false=B5 c
theorem CH[Srt](s t v0:Rd)(v4:Int)(i:List Bool)(b:Rd)(o1 f:List Bool)(g p0:List Bool)(h:Tb g):∀(w:Rd),(∀ob,Q (.dat .str<|w.dropWhile B5) ob)->Ends iM (L7 s t v0 v4 i b o1 f w g p0) Q
 |[],a=>zj (DY ..) (zn (by simp)<|zh<|a _)
 |c::r,a=>by
  have k:c.toNat<256:=c.toNat_lt;have j:(c::r).getD 0 0=c:=rfl;have e:(qd 1 (c::r)).take (yi (c::r).length 1)=r:=by show r.take ((r.length+1)-1)=r;rw[yo];exact yc
  refine zj (DY ..) ?_;conv=>zeta
  rw[j,zg,h.2,h.1,e];refine zc (by simp) (zc (by simp) (zc (Ab (w4<|show(0:Int)<=(c.toNat:Int)by omega)<|w4 ae)<|zc (w4 k)<|zl (fun d=>?_)<|fun d=>zc (by simp) ?_))
  ·have d:B5 c=false:=by simpa using d
   rw[ye,wc<|by rw[d];decide]at a;exact zh<|a _
  ·have d:B5 c=true:=by simpa using d
   rw[ye,wd d]at a;exact CH s t v0 v4 i b o1 f g p0 h r a
theorem Cc[Srt](s t v0:Rd)(v4:Int)(h:List Bool)(o1 a:List Bool)(g:Tb o1):∀(n:Nat) (w:Rd),w.length=n->n<=1000000->(∀ob,Q (.dat .str<|((w.reverse.dropWhile B5).reverse).dropWhile B5) ob)->Ends iM (L4 s t v0 v4 h w o1 a) Q
 |0,w,e,_,b=>by
  have:w=[]:=ya.1 e;subst this;exact zj (B1 ..) (zn (by simp)<|zj (HG ..)<|zn (by simp)<|zh<|b _)
 |n+1,w,e,l,b=>by
  obtain⟨p,c,rfl⟩:∃p c,w=p++[c]:=by
   have f:w≠[]:=by rintro rfl;simp at e
   exact⟨w.dropLast,w.getLast f,(yt f).symm⟩
  have hp:p.length=n:=by simpa using e
  have i:c.toNat<256:=c.toNat_lt;have k:zf .i64 (((p++[c]).length:Int)-1)=(n:Int):=by rw[e,wr _ ae ae];omega
  have j:(p++[c]).getD n 0=c:=FD _ _ _ _ hp;have t1:(p++[c]).take n=p:=by rw[<-hp];exact List.take_left
  have hr:(p++[c]).reverse=c::p.reverse:=by simp
  rw[hr,ye]at b;refine zj (B1 ..) (zc (w4 ae) ?_);rw[k,zg,j,t1,zg,g.2,g.1,e];refine zc (by simp;omega) (zc (Ab (w4<|show(0:Int)<=(c.toNat:Int)by omega)<|w4 ae)<|zc (w4 i)<|zl (fun d=>?_)<|fun d=>zc (by simp) ?_)
  ·have d:B5 c=false:=by simpa using d
   rw[wc (by rw[d];decide),List.reverse_cons,List.reverse_reverse]at b;exact CH s t v0 v4 h _ o1 a o1 a g (p++[c]) b
  ·have d:B5 c=true:=by simpa using d
   rw[wd d]at b;exact Cc s t v0 v4 h o1 a g n p hp ae b
theorem Agk{o:List Bool}(a:o.length=256)(b:∀c:Fin 256,o.getD c.1 false=(Nat.ble 48 c.1&&Nat.ble c.1 57)):Tb o:=by
 refine⟨a,fun c=>?_⟩;have:=b ⟨c.toNat,c.toNat_lt⟩;rw[show o.getD c.toNat false=_ from this];unfold B5;rw[Bool.eq_iff_iff];simp[Nat.ble_eq]
set_option maxRecDepth 10000 in
theorem ok[Srt]:Af AY 236 Yl:=by
 refine BA Abq<|fun(i:Rd×Rd) a=>?_;obtain⟨s,t⟩:=i;have a:(decide (t=DL)&&decide (s.length<=1000000))=true:=a;rw[zk,w5,w5]at a;obtain⟨rfl,hl⟩:=a;have b:∀ob,Ac Yl (s,DL) (.dat .str<|((s.reverse.dropWhile B5).reverse).dropWhile B5) ob:=fun ob=>yb rfl rfl rfl
 refine zz (Aj s DL) (zl (fun c=>?_)<|fun c=>zn af (zn af ?_))
 ·have c:s=[]:=by simpa using c
  subst c;exact zh<|b _
 ·refine Fh s 0 _ af rfl (Fh s 1 _ af rfl (Fh s 2 _ af rfl (Fh s 3 _ af rfl (Fh s 4 _ af rfl (Fh s 5 _ af rfl (Fh s 6 _ af rfl (Fh s 7 _ af rfl (Fh s 8 _ af rfl (Fh s 9 _ af rfl ?_)))))))));refine zj (Az ..) (zn af<|zc (by decide+kernel) (zc (by decide+kernel)<|zc (by decide+kernel)<|zc rfl (Cc s _ _ _ _ _ _ (Agk rfl ?_) s.length s rfl hl b)));decide+kernel
end T236
theorem Abs[Srt]:Cv XH1:=Aa T236.ok AB
theorem dropWhile_nil{p:UInt8->Bool}:∀ {l:Rd},l.dropWhile p=[]↔l.all p=true
 |[]=>by simp
 |a::l=>by
  rw[ye,qo];cases h:p a with
  |true=>simp only[wm,yn];exact dropWhile_nil
  |false=>simp
theorem JX{p:UInt8->Bool}:∀ {l:Rd} {a:UInt8} {r:Rd},l.dropWhile p=a::r->p a=false
 |[],a,r,h=>by simp at h
 |b::l,a,r,h=>by
  rw[ye]at h;cases c:p b with
  |true=>rw[c,wd rfl]at h;exact JX h
  |false=>
   rw[c]at h;simp at h;rw[<-h.1];exact c
theorem NZ(s:Rd):PH s=[]↔As s=true:=by
 unfold PH As;rw[dropWhile_nil,qe];constructor
 ·intro h;cases b:s.reverse.dropWhile B5 with
  |nil=>have:=dropWhile_nil.1 b;rwa [qe]at this
  |cons a r=>
   rw[b,qo,JX b]at h;cases h
 ·intro h;have:s.reverse.dropWhile B5=[]:=dropWhile_nil.2 (by rwa [qe]);rw[this];rfl
theorem T201.ok[Srt]:Af AY 201 ZC:=by
 refine BA Abs<|fun(s:Rd) f=>?_;have f:s.length<=1000000:=w6 f;have a:∀v b ob,v=.bl b\/v=.dat .bool b->b=A2 s->Ac ZC s v ob:=by
  rintro v b ob (rfl|rfl) g
  ·exact yb rfl rfl g
  ·exact yb rfl rfl g
 refine zz (T201.Aj s)<|zl (fun c=>zc ?_<|zl (fun d=>zc ?_<|zl (fun e=>zh<|a _ _ _ (.inl rfl) ?_)<|fun e=>zh<|a _ _ _ (.inr rfl) ?_)<|fun d=>zh<|a _ _ _ (.inl rfl) ?_)<|fun c=>zh<|a _ _ _ (.inl rfl) ?_
 ·exact Ab (w4 rfl)<|w4 f
 ·have c:s≠[]:=by simpa using c
  have:s.length≠0:=fun h=>c<|ya.1 h
  exact w4 ae
 ·have c:s≠[]:=by simpa using c
  have d:PH s=[]:=by simpa using d
  have d:=(NZ s).1 d;have e:s.getD 0 0≠48:=by
   intro h;rw[h]at e;exact wh e af
  unfold A2;rw[d,w4 c,w4 e];rfl
 ·have c:s≠[]:=by simpa using c
  have d:PH s=[]:=by simpa using d
  have d:=(NZ s).1 d;have e:s.getD 0 0=48:=by
   have:((s.getD 0 0).toNat:Int)=48:=by simpa using e
   exact yg.1 (by show _=48;omega)
  unfold A2;rw[d,w4 c,w8<|by rw[e];exact fun h=>h rfl];show(s==[48])=decide (s=[48]);rw[Bool.eq_iff_iff];simp
 ·have d:¬PH s=[]:=by simpa using d
  have d:As s=false:=by
   cases h:As s with
   |true=>exact wh ((NZ s).2 h) d
   |false=>rfl
  unfold A2;rw[d];simp
 ·have c:s=[]:=by simpa using c
  subst c;rfl
theorem T200.ok[Srt]:Af AY 200 Acv:=by
 refine BA Fi<|fun(i:Rd×Rd) b=>?_;obtain⟨s,t⟩:=i;have b:(decide (t=[45])&&decide (s.length<=1000000))=true:=b;rw[zk,w5,w5]at b;obtain⟨rfl,hl⟩:=b;have a:s.getD 0 0≠45->(s,false)=(A9 s,qm s):=fun h=>by
  unfold A9 qm;rw[wc h,w8 h]
 refine zz (T200.Aj s [45]) ?_;conv=>zeta
 cases s with
 |nil=>exact zn af (zh<|yb rfl rfl (a af))
 |cons c r=>
  have f:(c::r).take 1=[c]:=rfl;refine zc (by simp;omega) (zc (by simp) ?_);show Ends Pr (.ite (!List.take 1 (c::r)==[45]) _ _) _;rw[f];refine zl (fun d=>zh<|yb rfl rfl (a ?_)) (fun d=>zc (by simp)<|zh<|yb rfl rfl ?_)
  ·show c≠45;rintro rfl;exact wh d af
  ·have d:c=45:=by simpa using d
   subst d;show(((qd 1 ((45:UInt8)::r)).take<|yi ((45:UInt8)::r).length 1),true)=(A9 (45::r),qm (45::r));have e:(qd 1 ((45:UInt8)::r)).take (yi ((45:UInt8)::r).length 1)=r:=by show r.take ((r.length+1)-1)=r;rw[yo];exact yc
   rw[e];rfl
theorem AdJ{F:Fz}{s:Rd}{c:Int}{args:List V}(h:Lr F (Ag [Sh.str,Sh.int .u8] (s,c)) args):args=[.str s,.int .u8 c]:=by
 have:=h (fun _=>none) 0;simp only[Ag,Ce,BT]at this;obtain⟨a,f,rfl,d,b,g,rfl,e,rfl⟩:=this;simp only[PR,DC,List.cons.injEq,vf]at d e;rw[d,e]
theorem T280.ok[Srt]:Af AY 280 AcK:=by
 refine .inr ⟨PK.indexByte.run,by kernel_rfl,fun F h args i a hp=>?_⟩;obtain⟨s,c⟩:=i;have:=AdJ a;subst this;refine⟨VK<|s.findIdx? fun x=>x==c.toNat.toUInt8,rfl,fun ρ N=>?_⟩;show PR F ρ N (.dat i64<|QT s c) _;unfold QT;cases s.findIdx? fun x=>x==c.toNat.toUInt8 with
 |none=>simp[PR,DC,VK]
 |some i=>simp[PR,DC,VK,Det.i64]
theorem xD[Srt]:Cv XH2:=Aa T280.ok AB
theorem Zu{p:UInt8->Bool}{s:Rd}{i:Nat}(h:s.findIdx? p=some i):i<s.length:=(List.findIdx?_eq_some_iff_getElem.1 h).1
theorem T159.ok[Srt]:Af AY 159 oI:=by
 refine BA xD<|fun(i:Rd×Rd) e=>?_;obtain⟨s,t⟩:=i;have e:(decide (t=[47])&&decide (s.length<=1000000))=true:=e;rw[zk,w5,w5]at e;obtain⟨rfl,hl⟩:=e;have b:s.any (fun x=>x==47)=(s.findIdx? fun x=>x==47).isSome:=by
  rw[List.findIdx?_isSome]
 refine zz (T159.Aj s [47]) (zn af<|zl (fun c=>?_)<|fun c=>zc af<|zc af<|zc af ?_)
 ·have c:s=[47]:=by
   have:[47]=s:=by simpa using c
   exact this.symm
  subst c;exact zc rfl (zc rfl (zc rfl (zh<|yb rfl rfl rfl)))
 ·have a:QT s (((([47]:Rd).getD 0 0).toNat:Nat):Int)=match s.findIdx? (fun x=>x==47)with
   |some i=>(i:Int)
   |none=> -1:=rfl
  cases d:s.findIdx? (fun x=>x==47)with
  |none=>
   rw[d]at a;have a:QT s (((([47]:Rd).getD 0 0).toNat:Nat):Int)= -1:=a;rw[a];refine zn af<|zh<|yb rfl rfl ?_;show(s,[],false)=(AJ s,zw s,BR s);unfold AJ zw BR;rw[b,d];rfl
  |some k=>
   rw[d]at a;have a:QT s (((([47]:Rd).getD 0 0).toNat:Nat):Int)=(k:Int):=a;have h:=Zu d;have g:zf .i64 ((k:Int)+(([47]:Rd).length:Int))=((k+1:Nat):Int):=by
    show zf .i64 ((k:Int)+1)=_;rw[wr _ ae ae];omega
   rw[a,g,zg,zg];refine zc (by simp) (zc (by simp;omega)<|zc (by simp;omega)<|zh<|yb rfl rfl ?_);show(s.take k,(s.drop<|k+1).take<|yi s.length<|k+1,true)=(AJ s,zw s,BR s);unfold AJ zw BR;have f:(s.drop<|k+1).take (yi s.length<|k+1)=s.drop (k+1):=zm (by rw[zo];exact yr _);rw[b,d,f];rfl
namespace T142
theorem Au[Srt]{Q:PV->Ob->Prop}(s:Rd)(b:As s=true)(q:s.length<=18)(e:∀ob,Q (.dat i64<|AI 0 s) ob):∀(r:Rd) (i:Nat),s.drop i=r->i<=s.length->Ends wL (L1 s (AI 0<|s.take i) i) Q
 |[],i,h,f=>by
  have k:i=s.length:=drop_nil h f;subst k;rw[yc];exact zj (Ak ..) (zn (by simp)<|zh<|e _)
 |c::r,i,h,f=>by
  obtain⟨j,t,w⟩:=drop_cons (d:=0) h;have p:=Bn<|Bl b i;have a:(s.take i).length=i:=by rw[zr];omega
  rw[a]at p;have hp:(10:Int)^i<=10^17:=AT af ae;have o:B5 c=true:=by
   unfold As at b;rw[y9]at b;exact b c<|qY h
  have m:=FA o;have u:48<=c.toNat/\c.toNat<=57:=by unfold Ly at m;omega
  have v:zf .i64 (c.toNat:Int)=(c.toNat:Int):=wr _ ae ae;have g:(10:Int)^17=100000000000000000:=af
  have n:zf .i64 (zf .i64 (zf .i64 (10*AI 0 (s.take i))+(c.toNat:Int))-48)=AI 0 (s.take<|i+1):=by
   rw[iL h,De];show _=10*AI 0 (s.take i)+((c.toNat:Int)-48);generalize AI 0 (s.take i)=D at*;rw[wr (10*D) ae ae,wr (10*D+(c.toNat:Int)) ae ae,wr _ ae ae];omega
  have l:=wn (i:=i) ae;refine zj (Ak ..) (zc (by simp;omega) ?_);rw[zg,t,v,n,l];exact zc (by simp;omega)<|Au s b q e r (i+1) w j
theorem ok[Srt]:Af AY 142 TT:=by
 refine BA U5<|fun(s:Rd) a=>?_;have a:(decide (s.length<=18)&&As s)=true:=a;rw[zk,w5]at a;exact zz (Aj s)<|Au s a.2 a.1 (fun ob=>yb rfl rfl rfl) s 0 rfl (Nat.zero_le _)
end T142
theorem zA[Srt]:Cv jP:=Aa T142.ok<|Aa T149.ok AB
theorem Nq{neg:Bool}{w:List Int}{D:Int}(c:AA zd w)(d:ze zd w=D):(CQ neg w,AD w)=(Sp.rN<|if neg=true then -D else D,Sp.rW<|if neg=true then -D else D):=by
 have h0:=AH (b:=zd) af c;rw[d]at h0;have e:AD w=BW D:=by rw[Fv c];show BW (ze zd w)=_;rw[d]
 have a:BW D=[]↔D=0:=sR af h0;have f:Ai (if neg=true then -D else D)=D:=by rw[Al];split<;>omega
 unfold CQ Sp.rW Sp.rN;rw[f,e];congr 1;cases neg with
 |false=>simp;omega
 |true=>
  simp only[wm,yn,vc,a,decide_eq_decide];omega
namespace T138
theorem AgX:(10:Int)^9=1000000000:=af
theorem Kj{s:Rd}{m:Nat}(a:m+9=s.length):AI 0 s=AI 0 (s.take m)*1000000000+AI 0 (s.drop m):=by
 conv=>lhs;rw[<-yd m s]
 rw[De,E3<|s.drop m,zo,show s.length-m=9 by omega,AgX]
theorem CP{s:Rd}(b:As s=true)(h:s.length<=9):0<=AI 0 s/\AI 0 s<1000000000:=by
 have:=Bn b;have a:(10:Int)^s.length<=10^9:=AT af h;rw[AgX]at a;omega
theorem Co{s:Rd}(a:As s=true)(h:s.length<=18):Ee s=true:=by
 unfold Ee;rw[a,Bool.and_true];exact w4 h
theorem Dr[Srt](neg:Bool)(D:Int)(h:∀(w:List Int) ob,AA zd w->ze zd w=D->Q (.agg [.dat .bool<|CQ neg w,.dat li<|AD w]) ob):∀(f:Nat) (s:Rd) (o1:List Int),s.length<=f->As s=true->o1.length+s.length<=6000->AA zd o1->ze zd o1+(zd:Int)^o1.length*AI 0 s=D->Ends jP (L3 s neg o1.length o1) Q:=by
 intro f;induction f with
 |zero=>
  intro s o1 n a k d c;have g:s.length<=9:=ae
  have b:=CP a g;have e:(o1++[B6 s]).take (qv o1.length 1)=o1++[B6 s]:=zm (by simp);refine zj (Be ..) (zn (by simp;omega) (zc (Co a ae)<|zc (by simp;omega) ?_));rw[e];refine zc (by simp;omega)<|zh<|h _ _ (F5 d b) ?_;rw[CE];exact c
 |succ f j=>
  intro s o1 n a k d c;by_cases g:s.length<=9
  ·have b:=CP a g;have e:(o1++[B6 s]).take (qv o1.length 1)=o1++[B6 s]:=zm (by simp);refine zj (Be ..) (zn (by simp;omega) (zc (Co a ae)<|zc (by simp;omega) ?_));rw[e];refine zc (by simp;omega)<|zh<|h _ _ (F5 d b) ?_;rw[CE];exact c
  ·obtain⟨m,l⟩:∃m,m+9=s.length:=⟨s.length-9,by omega⟩;have o:zf .i64 ((s.length:Int)-9)=(m:Int):=by rw[wr _ ae ae];omega
   have i:(s.drop m).take (yi s.length m)=s.drop m:=zm (by rw[zo];exact yr _);have b:=CP (Cd a m) (by rw[zo];omega);refine zj (Be ..) (zc (by simp;omega) ?_);rw[o,zg,i];refine zc (by simp;omega) (zc (Co (Cd a m)<|by rw[zo];omega) (zc (by simp;omega)<|zc (by simp;omega) ?_));have:=j (s.take m) (o1++[B6<|s.drop m]) (by rw[zr];omega) (Bl a m) (by simp;omega) (F5 d b) (by
    rw[CE,zx];show ze zd o1+(zd:Int)^o1.length*AI 0 (s.drop m)+(zd:Int)^(o1.length+1)*AI 0 (s.take m)=D;rw[M8,qn, <-zu, <-c,Kj l];congr 2;omega)
   rw[zx]at this;exact this
theorem Cc[Srt](D:Int)(h:∀(w:List Int) ob,AA zd w->ze zd w=D->Q (.agg [.dat .bool<|CQ false w,.dat li<|AD w]) ob):∀(f:Nat) (s:Rd) (o1:List Int),s.length<=f->As s=true->o1.length+s.length<=6000->AA zd o1->ze zd o1+(zd:Int)^o1.length*AI 0 s=D->Ends jP (L4 s o1.length o1) Q:=by
 intro f;induction f with
 |zero=>
  intro s o1 n a k d c;have g:s.length<=9:=ae
  have b:=CP a g;have e:(o1++[B6 s]).take (qv o1.length 1)=o1++[B6 s]:=zm (by simp);refine zj (B1 ..) (zn (by simp;omega) (zc (Co a ae)<|zc (by simp;omega) ?_));rw[e];refine zc (by simp;omega)<|zh<|h _ _ (F5 d b) ?_;rw[CE];exact c
 |succ f j=>
  intro s o1 n a k d c;by_cases g:s.length<=9
  ·have b:=CP a g;have e:(o1++[B6 s]).take (qv o1.length 1)=o1++[B6 s]:=zm (by simp);refine zj (B1 ..) (zn (by simp;omega)<|zc (Co a ae) (zc (by simp;omega) ?_));rw[e];refine zc (by simp;omega)<|zh<|h _ _ (F5 d b) ?_;rw[CE];exact c
  ·obtain⟨m,l⟩:∃m,m+9=s.length:=⟨s.length-9,by omega⟩;have o:zf .i64 ((s.length:Int)-9)=(m:Int):=by rw[wr _ ae ae];omega
   have i:(s.drop m).take (yi s.length m)=s.drop m:=zm (by rw[zo];exact yr _);have b:=CP (Cd a m) (by rw[zo];omega);refine zj (B1 ..) (zc (by simp;omega) ?_);rw[o,zg,i];refine zc (by simp;omega) (zc (Co (Cd a m)<|by rw[zo];omega) (zc (by simp;omega)<|zc (by simp;omega) ?_));have:=j (s.take m) (o1++[B6<|s.drop m]) (by rw[zr];omega) (Bl a m) (by simp;omega) (F5 d b) (by
    rw[CE,zx];show ze zd o1+(zd:Int)^o1.length*AI 0 (s.drop m)+(zd:Int)^(o1.length+1)*AI 0 (s.take m)=D;rw[M8,qn, <-zu, <-c,Kj l];congr 2;omega)
   rw[zx]at this;exact this
theorem Au[Srt](neg:Bool)(s:Rd)(a:As s=true)(i:s.length<=5999)(d:∀(w:List Int) ob,AA zd w->ze zd w=AI 0 s->Q (.agg [.dat .bool<|CQ neg w,.dat li<|AD w]) ob):Ends jP (L1 s neg) Q:=by
 by_cases g:s.length<=9
 ·have b:=CP a g;refine zj (Ak ..) (zn (by simp;omega) (zc (Co a ae)<|zc rfl (zc rfl (zh<|d _ _ (F5 (l:=[]) (fun x c=>by cases c) b) ?_))));show ze zd [AI 0 s]=_;exact EH _
 ·obtain⟨m,f⟩:∃m,m+9=s.length:=⟨s.length-9,by omega⟩;have h:zf .i64 ((s.length:Int)-9)=(m:Int):=by rw[wr _ ae ae];omega
  have e:(s.drop m).take (yi s.length m)=s.drop m:=zm (by rw[zo];exact yr _);have b:=CP (Cd a m) (by rw[zo];omega);refine zj (Ak ..) (zc (by simp;omega) ?_);rw[h,zg,e];refine zc (by simp;omega) (zc (Co (Cd a m)<|by rw[zo];omega) (zc rfl (zc (by simp;omega) ?_)));refine Dr neg (AI 0 s) d m (s.take m) [B6<|s.drop m] (by rw[zr];omega) (Bl a m) (by simp;omega) (F5 (l:=[]) (fun x c=>by cases c) b) ?_;rw[EH,Kj f];show AI 0 (s.drop m)+(zd:Int)^1*_=_;rw[yp,qu,yq,z6];exact Int.add_comm _ _
theorem A5[Srt](s:Rd)(a:As s=true)(i:s.length<=5999)(d:∀(w:List Int) ob,AA zd w->ze zd w=AI 0 s->Q (.agg [.dat .bool<|CQ false w,.dat li<|AD w]) ob):Ends jP (L2 s) Q:=by
 by_cases g:s.length<=9
 ·have b:=CP a g;refine zj (Az ..) (zn (by simp;omega)<|zc (Co a ae) (zc rfl (zc rfl (zh<|d _ _ (F5 (l:=[]) (fun x c=>by cases c) b) ?_))));show ze zd [AI 0 s]=_;exact EH _
 ·obtain⟨m,f⟩:∃m,m+9=s.length:=⟨s.length-9,by omega⟩;have h:zf .i64 ((s.length:Int)-9)=(m:Int):=by rw[wr _ ae ae];omega
  have e:(s.drop m).take (yi s.length m)=s.drop m:=zm (by rw[zo];exact yr _);have b:=CP (Cd a m) (by rw[zo];omega);refine zj (Az ..) (zc (by simp;omega) ?_);rw[h,zg,e];refine zc (by simp;omega) (zc (Co (Cd a m)<|by rw[zo];omega) (zc rfl (zc (by simp;omega) ?_)));refine Cc (AI 0 s) d m (s.take m) [B6<|s.drop m] (by rw[zr];omega) (Bl a m) (by simp;omega) (F5 (l:=[]) (fun x c=>by cases c) b) ?_;rw[EH,Kj f];show AI 0 (s.drop m)+(zd:Int)^1*_=_;rw[yp,qu,yq,z6];exact Int.add_comm _ _
theorem ok[Srt]:Af AY 138 OZ:=by
 refine BA zA<|fun(s:Rd) a=>?_;have a:(decide (s.length<=5999)&&(if s.getD 0 0=45 then As (s.drop 1)else As s))=true:=a;rw[zk,w5]at a;obtain⟨g,a⟩:=a;have fin:∀(neg:Bool) (D:Int),BU s=(if neg=true then -D else D)->∀(w:List Int) ob,AA zd w->ze zd w=D->Ac OZ s (.agg [.dat .bool<|CQ neg w,.dat li<|AD w]) ob:=by
  intro neg D hr w ob h i;refine yb rfl rfl ?_;show(CQ neg w,AD w)=(Sp.rN<|BU s,Sp.rW<|BU s);rw[hr];exact Nq h i
 refine zz (Aj s) ?_;conv=>zeta
 cases s with
 |nil=>exact zn af (A5 [] rfl af (fin false 0 rfl))
 |cons c r=>
  have f:(c::r).getD 0 0=c:=rfl;rw[f]at a;rw[f];refine zc (by simp) (zc (by simp)<|zl (fun d=>?_)<|fun d=>?_)
  ·have b:c=45:=by
    have:(c.toNat:Int)=45:=by simpa using d
    exact yg.1 (by show _=45;omega)
   rw[wd b]at a;have e:(qd 1 (c::r)).take (yi (c::r).length 1)=r:=by show r.take ((r.length+1)-1)=r;rw[yo];exact yc
   rw[d,e];refine zc (by simp) (Au true r a (by simp at g;omega)<|fin true _ ?_);unfold BU;rw[f,wd b,wd rfl];rfl
  ·have b:c≠45:=by
    rintro rfl;exact wh d af
   rw[wc b]at a;rw[d];refine Au false (c::r) a g<|fin false _ ?_;unfold BU;rw[f,wc b,wc af]
end T138
theorem AaX[Srt]:Cv Sd:=
 Aa T68n.ok (Aa T199.ok<|Aa T125.ok<|Aa T124.ok<|Aa T162.ok<|Aa (HE (by rfl)<|Bd ag)<|Aa (HE (by rfl)<|Bd ag) AB)
theorem TA(k:Nat):FJ 18 (k:Int)=((min 18 k:Nat):Int):=by grind [FJ]
theorem Acd(n:Int):zf .u8 n=n % 256:=by rfl
theorem Adx(k:Nat):(10:Int)^k<=(Ar:Int)^k:=by
 induction k with
 |zero=>simp
 |succ k a=>
  grind
theorem Hc{n:Int}(h0:0<=n)(h:n<(10:Int)^(6000:Nat)):Bg (Dd n)=true:=by
 refine Ec ?_;grind [Al]
theorem O4(m n:Int):Fq (C8 m,C6 m) (C8 n,C6 n)=C8 (m*n)/\FC (C8 m,C6 m) (C8 n,C6 n)=C6 (m*n):=by
 constructor
 ·show C8 (ql (Dd _)*ql (Dd _))=_;rw[CJ,CJ]
 ·show C6 (ql (Dd _)*ql (Dd _))=_;rw[CJ,CJ]
theorem AbK{a b:AM}(h:0<=ql a+ql b):ES a b=Dd (ql a+ql b):=by
 unfold ES;grind [Cn,Dd,ql]
theorem Py{m v:Int}(e:0<=m)(f:0<=v):KU (C8 m,C6 m) (v,BI v)=C8 (m+v)/\K3 (C8 m,C6 m) (v,BI v)=C6 (m+v):=by
 have d:ql (C8 m,C6 m)=m:=CJ m;have c:ql (v,BI v)=v:=by rw[Ff,FQ]
 have:=AbK (a:=(C8 m,C6 m)) (b:=(v,BI v)) ae;rw[d,c]at this;exact⟨wi Prod.fst this,wi Prod.snd this⟩
theorem O5(n:Nat):Wk ((10:Int),BI (10:Int)) (n:Int)=C8 (10^n)/\Xt ((10:Int),BI (10:Int)) (n:Int)=C6 (10^n):=by
 simp_all [Yi,Ff,FQ,Wk,Xt]
theorem kH:Bg ((10:Int),BI (10:Int))=true:=by rfl
theorem sB{n:Nat}(h:n<=18):yT (ql ((10:Int),BI (10:Int))) (n:Int)=true:=by
 have a:(10:Int)^n<=10^18:=AT af h;have b:(10:Int)^18<18446744073709551616^1:=af
 have c:(18446744073709551616:Int)^(1:Nat)<=18446744073709551616^(4000:Nat):=ae;exact Ab (ad ae ae)<|w4<|Int.lt_of_le_of_lt a<|zy b c
theorem XF{v:Int}(h0:0<=v)(h:v<1000000000000000000):Bg (v,BI v)=true:=by
 rw[Ff];exact Ab (by grind [MT,Fo]) (by rfl)
theorem aI{w:Rd}(a:As w=true)(h:w.length<=18):0<=AI 0 w/\AI 0 w<1000000000000000000:=by
 have:=Bn a;have b:(10:Int)^w.length<=10^18:=AT af h;omega
namespace T160
theorem CH[Srt](W:Rd)(neg:Bool)(v:Int)(g:List Int)(u:Int)(w:Rd)(n:Nat)(G:w=W.take n)(hW:As W=true)(s:n=min 18 W.length)(y:1<=W.length)(a f:Int)(a0:0<=a)(q:Bg (Dd a)=true)(h:Bg (Dd<|a*10^n)=true)
  (l:Ends Sd (L5 (W.drop n) neg (C8<|a*10^n+AI 0 w) (C6<|a*10^n+AI 0 w) f) Q):
  ∀(r:Rd) (j:Nat),w.drop j=r->j<=w.length->Ends Sd (L7 W neg v g u w (AI 0<|w.take j) w.length w.length j (w.map fun b=>(b.toNat:Int)) (C8 a) (C6 a) f) Q
 |[],j,hr,i=>by
  have e:As w=true:=by grind [Bl]
  have m:w.length=n:=ah
  have z:j=w.length:=drop_nil hr i;subst z;have k:=aI e ae;obtain⟨c,t,J⟩:∃c t,w=c::t:=by
   cases w with
   |nil=>grind
   |cons c t=>simp
  have o:((((w.getD 0 0).toNat:Int)==(45:Int))=false):=by
   unfold As at e;grind [B5]
  have B:(W.drop n).take (yi W.length n)=W.drop n:=(by simp_all [zm]);have p0:0<=a*10^n:=z8 a0 ah;have D:Bg (C8<|10^n,C6<|10^n)=true:=by
   refine GL (Hc (n:=(10:Int)^n) ah ?_);have L:(10:Int)^n<=10^18:=AT af ae;omega
  refine zj (DY ..) (zn (by simp)<|zc ah ?_);rw[o,TA, <-s,(O5 n).1,(O5 n).2,yc];refine zn rfl (zc rfl (zc (by grind [kH,sB])<|zc (Ab q D)<|zc rfl ?_));rw[(O4 _ _).1,(O4 _ _).2,(Py p0 k.1).1,(Py p0 k.1).2,zg,B];exact zc (Ab h<|XF k.1 k.2) (by grind [zc])
 |c::r,j,hr,i=>by
  have e:As w=true:=by grind [Bl]
  have m:w.length=n:=ah
  obtain⟨H,M,E⟩:=drop_cons (d:=0) hr;have p:B5 c=true:=by
   grind [As]
  have I:=FA p;have K:=Bn<|Bl e j;have hp:(10:Int)^j<=10^17:=AT af ae;have x:(w.map fun b=>(b.toNat:Int)).getD j 0=(c.toNat:Int):=by
   grind
  have F:zf .u8 ((c.toNat:Int)-48)=Ly c:=by
   grind [Acd,Ly]
  have C:zf .i64 (zf .i64 (AI 0 (w.take j)*10)+zf .i64 (Ly c))=AI 0 (w.take<|j+1):=by
   grind [De,AI,wr]
  have A:zf .i64 ((j:Int)+1)=((j+1:Nat):Int):=by grind [wr]
  refine zj (DY ..) (zc ah ?_);rw[zg,x,F,C,A];refine zc ah (zc ah (zn ah ?_));exact CH W neg v g u w n G hW s y a f a0 q h l r (j+1) E H
theorem Dr[Srt](W:Rd)(neg:Bool)(u:Int)(s:Int)(w:Rd)(n:Nat)(G:w=W.take n)(hW:As W=true)(q:n=min 18 W.length)(y:1<=W.length)(a f:Int)(m:a=0)(a0:0<=a)(x:Bg (Dd a)=true)(g:Bg (Dd<|a*10^n)=true)
  (k:Ends Sd (L5 (W.drop n) neg (C8<|a*10^n+AI 0 w) (C6<|a*10^n+AI 0 w) f) Q):
  ∀(r:Rd) (j:Nat),w.drop j=r->j<=w.length->Ends Sd (L3 W neg u s w (AI 0<|w.take j) w.length w.length j (w.map fun b=>(b.toNat:Int)) 0 f) Q
 |[],j,hr,h=>by
  have e:As w=true:=by grind [Bl]
  have l:w.length=n:=ah
  have z:j=w.length:=drop_nil hr h;subst z;have i:=aI e ae;obtain⟨c,t,J⟩:∃c t,w=c::t:=by
   cases w with
   |nil=>grind
   |cons c t=>simp
  have o:((((w.getD 0 0).toNat:Int)==(45:Int))=false):=by
   unfold As at e;grind [B5]
  have B:(W.drop n).take (yi W.length n)=W.drop n:=(by simp_all [zm]);have p0:0<=a*10^n:=ah;have D:Bg (C8<|10^n,C6<|10^n)=true:=by
   refine GL (Hc (n:=(10:Int)^n) ah ?_);have L:(10:Int)^n<=10^18:=AT af ae;omega
  refine zj (Be ..) (zn (by simp)<|zc ah ?_);rw[o,TA, <-q,(O5 n).1,(O5 n).2,yc];refine zn rfl (zc rfl (zc (by grind [kH,sB])<|zc (Ab (by rfl) D)<|zc rfl ?_));rw[show Fq ((0:Int),[]) (C8<|10^n,C6<|10^n)=C8 (a*10^n)by rw[m];exact(O4 0 _).1,show FC ((0:Int),[]) (C8<|10^n,C6<|10^n)=C6 (a*10^n)by rw[m];exact(O4 0 _).2,(Py p0 i.1).1,(Py p0 i.1).2,zg,B];exact zc (Ab g<|XF i.1 i.2) (by grind [zc])
 |c::r,j,hr,h=>by
  have e:As w=true:=by grind [Bl]
  have l:w.length=n:=ah
  obtain⟨H,M,E⟩:=drop_cons (d:=0) hr;have p:B5 c=true:=by
   grind [As]
  have I:=FA p;have K:=Bn<|Bl e j;have hp:(10:Int)^j<=10^17:=AT af ae;have v:(w.map fun b=>(b.toNat:Int)).getD j 0=(c.toNat:Int):=by
   grind
  have F:zf .u8 ((c.toNat:Int)-48)=Ly c:=by
   grind [Acd,Ly]
  have C:zf .i64 (zf .i64 (AI 0 (w.take j)*10)+zf .i64 (Ly c))=AI 0 (w.take<|j+1):=by
   grind [De,AI,wr]
  have A:zf .i64 ((j:Int)+1)=((j+1:Nat):Int):=by grind [wr]
  refine zj (Be ..) (zc ah ?_);rw[zg,v,F,C,A];refine zc ah (zc ah<|zn ah ?_);exact Dr W neg u s w n G hW q y a f m a0 x g k r (j+1) E H
theorem Abi[Srt](W:Rd)(neg:Bool)(o1:Int)(a:List Int)(e:Int)(hW:As W=true)(i:1<=W.length)(n:Nat)(g:n=min 18 W.length)
  (h:Ends Sd (L7 W neg o1 a e (W.take n) 0 (W.take n).length (W.take n).length 0 ((W.take n).map fun b=>(b.toNat:Int)) o1 a e) Q):Ends Sd (L5 W neg o1 a e) Q:=by
 have d:=Bl hW n;have f:((((W.take n).getD 0 0).toNat:Int)==(45:Int))=false/\((((W.take n).getD 0 0).toNat:Int)==(43:Int))=false:=by
  cases j:W.take n with
  |nil=>simp
  |cons c t=>
   unfold As at d;grind [B5]
 refine zj (D0 ..) (zc ah ?_);rw[TA, <-g,zg,f.1,f.2];exact zc ah (zc ah (zc ah<|zc ah<|zn rfl (zc ah<|zn rfl h)))
theorem yM[Srt](W:Rd)(neg:Bool)(o1:Int)(d:Int)(hW:As W=true)(g:1<=W.length)(n:Nat)(f:n=min 18 W.length)
  (h:Ends Sd (L3 W neg o1 d (W.take n) 0 (W.take n).length (W.take n).length 0 ((W.take n).map fun b=>(b.toNat:Int)) o1 d) Q):Ends Sd (L1 W neg o1 d) Q:=by
 have a:=Bl hW n;have e:((((W.take n).getD 0 0).toNat:Int)==(45:Int))=false/\((((W.take n).getD 0 0).toNat:Int)==(43:Int))=false:=by
  cases i:W.take n with
  |nil=>simp
  |cons c t=>
   unfold As at a;grind [B5]
 refine zj (Ak ..) (zc ah ?_);rw[TA, <-f,zg,e.1,e.2];exact zc ah (zc ah<|zc ah (zc ah<|zn rfl (zc ah<|zn rfl h)))
theorem Ae7(n:Int)(h:0<=n):(EX (C8 n,C6 n),EV (C8 n,C6 n))=Dd (-n):=by
 show Dt (Dd n)=_;unfold Dt;split
 ·next c=>
  have:=CJ n;rw[BG c.1]at this;rw[this,CD (n:= -n)];by_cases a: -9223372036854775808<n/\n<9223372036854775808
  ·omega
  ·have e:Dd n=(1,BD<|Ai n):=by simp_all [Dd,wc]
   grind
 ·rw[CJ]
theorem ZZ{a D:Int}{W:Rd}{n:Nat}(b:0<=a)(hW:As W=true)(h:n<=W.length)(f:a*10^W.length+AI 0 W=D):(a*10^n+AI 0 (W.take n))*10^(W.drop n).length+AI 0 (W.drop n)=D/\a<=D/\a*10^n<=D:=by
 have d:AI 0 W=AI 0 (W.take n)*10^(W.drop n).length+AI 0 (W.drop n):=by
  grind [yd,De,E3]
 have c:W.length=n+(W.drop n).length:=ah
 have g:=(Bn hW).1;have one:∀k:Nat,(1:Int)<=10^k:=fun k=>by have:=Bj (show(0:Int)<10 by decide) k;omega
 have l1:a<=a*10^W.length:=by have:=zi (one W.length) b;omega
 have e:a*10^n<=a*10^n*10^(W.drop n).length:=by
  have:=zi (one (W.drop n).length) (z8 b (show(0:Int)<=10^n by grind));omega
 grind
theorem CS[Srt](neg:Bool)(d D:Int)(b:D<(10:Int)^(6000:Nat))(m:∀ob,Q (.agg [.dat i64<|C8<|if neg=true then -D else D,.dat (.nlist u64)<|C6<|if neg=true then -D else D]) ob):∀(f:Nat) (W:Rd) (a:Int),W.length<f->W.length<=6000->0<=a->As W=true->a*10^W.length+AI 0 W=D->Ends Sd (L5 W neg (C8 a) (C6 a) d) Q
 |0,W,a,l,_,_,_,_=>by omega
 |f+1,W,a,l,o,e,hW,g=>by
  cases i:W with
  |nil=>
   have g:a=D:=by grind [AI]
   subst g;have h:=Hc e b;refine zj (D0 ..) (zn (by simp)<|zl (fun c=>zc (Ci h).1<|zh ?_)<|fun c=>zh ?_)
   ·have:=Ae7 a e;have p:EX (C8 a,C6 a)=C8 (-a):=wi Prod.fst this;have q:EV (C8 a,C6 a)=C6 (-a):=wi Prod.snd this;grind
   grind
  |cons c t=>
   rw[<-i];have j:1<=W.length:=ah
   obtain⟨k,u,s⟩:=ZZ (n:=min 18 W.length) e hW ae g;have r:=(Bn<|Bl hW<|min 18 W.length).1;have hp:0<=a*10^(min 18 W.length):=z8 e ah;refine Abi W neg _ _ d hW j _ rfl (CH W neg _ _ d _ _ rfl hW rfl j a d e (by grind [Hc]) (by grind [Hc]) ?_ _ 0 rfl ae);exact CS neg d D b m f (W.drop<|min 18 W.length) _ ah ah ae (Cd hW _) k
theorem Au[Srt](neg:Bool)(W:Rd)(g:W.length<=5999)(hW:As W=true)(f:∀ob,Q (.agg [.dat i64<|C8<|if neg=true then -AI 0 W else AI 0 W,.dat (.nlist u64)<|C6<|if neg=true then -AI 0 W else AI 0 W]) ob)(h:W=[]->∀ob v,(v=.agg [.dat i64 0,.nil]\/v=.agg [.dat i64<|EX ((0:Int),[]),.dat (.nlist u64)<|EV ((0:Int),[])])->Q v ob):Ends Sd (L1 W neg 0 0) Q:=by
 cases d:W with
 |nil=>
  refine zj (Ak ..) (zn (by simp)<|zl (fun c=>zc af<|by simp_all)<|by simp_all)
 |cons c t=>
  rw[<-d];have e:1<=W.length:=ah
  have b:AI 0 W<(10:Int)^(6000:Nat):=zy (Bn hW).2 (AT af ae);obtain⟨i,l,k⟩:=ZZ (a:=0) (n:=min 18 W.length) (D:=AI 0 W) ae hW ae ae;have j:=(Bn<|Bl hW<|min 18 W.length).1;refine yM W neg 0 0 hW e _ rfl (Dr W neg 0 0 _ _ rfl hW rfl e 0 0 rfl ae af (by rw[qt];decide) ?_ _ 0 rfl ae);exact CS neg 0 _ b f (W.length+1) (W.drop<|min 18 W.length) _ ah ah ae (Cd hW _) i
theorem ok[Srt]:Af AY 160 RU:=by
 refine BA AaX<|fun(s:Rd) a=>?_;have a:(decide (s.length<=5999)&&(if s.getD 0 0=45 then As (s.drop 1)else As s))=true:=a;rw[zk,w5]at a;obtain⟨l,a⟩:=a;have fin:∀D,BU s=D->∀ob,Ac RU s (.agg [.dat i64<|C8 D,.dat (.nlist u64)<|C6 D]) ob:=by
  rintro D rfl ob;exact yb rfl rfl rfl
 have b:BU s=0->∀ob v,(v=.agg [.dat i64 0,.nil]\/v=.agg [.dat i64<|EX ((0:Int),[]),.dat (.nlist u64)<|EV ((0:Int),[])])->Ac RU s v ob:=by
  rintro h ob v (rfl|rfl)
  ·refine yb rfl rfl ?_;show((0:Int),([]:List Int))=(C8<|BU s,C6<|BU s);rw[h];rfl
  ·refine yb rfl rfl ?_;show Dt ((0:Int),([]:List Int))=(C8<|BU s,C6<|BU s);rw[h];rfl
 refine zz (Aj s) ?_;conv=>zeta
 cases s with
 |nil=>
  refine zn af (zn af (zj (Az ..)<|zn af<|zh<|b rfl _ _ (.inl rfl)))
 |cons c r=>
  have i:(c::r).take 1=[c]:=rfl;have k:(c::r).getD 0 0=c:=rfl;rw[k]at a;have e:(qd 1 (c::r)).take (yi (c::r).length 1)=r:=by simp
  have g:decide (((c::r).length:Int)>=1)=true:=ah;have f:decide (1<=(c::r).length)=true:=(by rfl);rw[i,e];refine zc g<|zc f<|zc g<|zc f<|zl (fun d=>?_)<|fun d=>?_
  ·have j:c=45:=ah
   rw[wd j]at a;rw[d];have hr:BU (c::r)= -AI 0 r:=by simp_all [BU]
   refine zc (by simp) (Au true r ah a ah<|fun h0=>b<|by rw[hr,h0];rfl)
  simp_all [BU,Au]
end T160
namespace T202
theorem loop[Srt]{Q:PV->Ob->Prop}(l:List Int)(f:l.length<=1000000):∀(r:List Int) (i:Nat),l.drop i=r->i<=l.length->Q (.dat i64<|qw r) []->Ends Pr (L1 l ((l.length:Int)) i) Q
 |[],i,h,j,a=>by
  refine zj (Ak ..) ?_;conv=>zeta
  have:¬i<l.length:=by
   intro b;have:=List.drop_eq_getElem_cons b;rw[h]at this;cases this
  have e:i=l.length:=ae
  subst e;simpa [qw]using a
 |x::r,i,h,j,a=>by
  obtain⟨b,g,k⟩:=drop_cons (d:=0) h;refine zj (Ak ..) ?_;conv=>zeta
  rw[FB,wd (by simp;omega),FB,wd (by simp;omega),FB];simp only[zg,g];by_cases c:x=0
  ·subst c;rw[wc (by simp),wr _ ae ae];exact loop l f r (i+1) k b (by simpa [qw]using a)
  ·rw[wd<|by simpa using c];simpa [qw,c]using a
theorem ok[Srt]:Af AY 202 GV:=by
 refine BA Fi<|fun l a=>?_;refine zz (Aj l) ?_;conv=>zeta
 exact loop l (by simpa [GV]using a) l 0 rfl (Nat.zero_le _) (yb rfl rfl rfl)
end T202
theorem T203.ok[Srt]:Af AY 203 Gw:=by
 refine BA Fi<|fun⟨c,e⟩ _=>?_;refine zz (T203.Aj c e) ?_;conv=>zeta
 have key:∀x:Int,x=Cb c e->Ac Gw (c,e) (.dat i64 x) []:=fun x a=>yb rfl rfl a
 simp only[FB,HV];cases c
 ·exact key _ rfl
 ·exact key _ rfl
theorem xI[Srt]:Cv N1:=
 Aa T202.ok (Aa T203.ok<|Aa T200.ok<|Aa T159.ok<|Aa T201.ok<|Aa T171.ok<|Aa T160.ok<|Aa T67.ok<|Aa T68n.ok AB)
theorem Iq{s:Rd}(h:A2 s=true):s≠[]/\As s=true:=by
 unfold A2 at h;rw[zk,zk,w5]at h;exact h.1
theorem Mo{s:Rd}(h:As s=true)(b:s.length<=5999):D1 s=true/\BU s=AI 0 s:=by
 have h0:s.getD 0 0≠45:=by
  cases s with
  |nil=>decide
  |cons c r=>
   unfold As at h;rw[qo,zk]at h;have:=FA h.1;rintro a;have a:c=45:=a;subst a;exact wh this af
 unfold D1 BU;rw[wc h0,wc h0,h,Bool.and_true];exact⟨w4 b,rfl⟩
theorem AcU{a b L:Int}(c:0<=a)(f:0<=b)(g:a<L)(d:b<L):0<=qc a b/\qc a b<L:=by
 rw[GJ];obtain⟨x,rfl⟩:=yf c;obtain⟨y,rfl⟩:=yf f;have e:Int.gcd (x:Int) (y:Int)=Nat.gcd x y:=rfl;rw[e];refine⟨Int.natCast_nonneg _,?_⟩;rcases Nat.eq_zero_or_pos x with h|h
 ·subst h;rw[Nat.gcd_zero_left];exact d
 ·have:=Nat.gcd_le_left y h;omega
namespace T163
def E(A B:Rd)(b a:Bool):Int:=if a=false then 1 else if 600<A.length\/600<B.length then 4 else if b=true/\qc (AI 0 A) (AI 0 B)≠1 then 1 else 0
theorem Gc[Srt](A B:Rd)(a:Bool)(k:As A=true)(b:a=true->As B=true)(z:A.length<=600)(y:B.length<=600)(e:∀ob,Q (.dat i64<|if a=true/\qc (AI 0 A) (AI 0 B)≠1 then 1 else 0) ob):Ends N1 (L8 A B a) Q:=by
 refine zj (HG ..)<|zl (fun c=>?_)<|fun c=>?_
 ·have b:=b c;obtain⟨s,i⟩:=Mo k ae;obtain⟨r3,r4⟩:=Mo b ae;have d:=Bn k;have f:=Bn b;have l:AI 0 A<(10:Int)^(6000:Nat):=zy d.2 (AT af ae);have j:AI 0 B<(10:Int)^(6000:Nat):=zy f.2 (AT af ae);have x:DA A=C8 (AI 0 A):=by unfold DA;rw[i]
  have o:DD A=C6 (AI 0 A):=by unfold DD;rw[i]
  have n:DA B=C8 (AI 0 B):=by unfold DA;rw[r4]
  have v:DD B=C6 (AI 0 B):=by unfold DD;rw[r4]
  have u:OD (C8<|AI 0 A,C6<|AI 0 A) (C8<|AI 0 B,C6<|AI 0 B)=C8 (qc (AI 0 A)<|AI 0 B):=by
   unfold OD;rw[MP,MP]
  have w:Oe (C8<|AI 0 A,C6<|AI 0 A) (C8<|AI 0 B,C6<|AI 0 B)=C6 (qc (AI 0 A)<|AI 0 B):=by
   unfold Oe;rw[MP,MP]
  obtain⟨l1,t⟩:=AcU d.1 f.1 l j;have m:fX (C8<|qc (AI 0 A)<|AI 0 B,C6<|qc (AI 0 A)<|AI 0 B) ((1:Int),BI (1:Int))=CC (qc (AI 0 A)<|AI 0 B) 1:=by
   unfold fX;rw[MP,Ff,FQ]
  rw[x,o,n,v,u,w,m];have p:Bg ((1:Int),BI (1:Int))=true:=by rw[Ff];decide
  refine zc s<|zc r3<|zc (Ab (GL<|Hc d.1 l)<|GL<|Hc f.1 j)<|zc rfl (zc (Ab (GL<|Hc l1 t) p) ?_);refine zj (vE ..)<|zc rfl (zh ?_);generalize qc (AI 0 A) (AI 0 B)=g at*;have:Cb (CC g 1 !=0) 1=if a=true/\g≠1 then 1 else 0:=by
   unfold CC Cb;by_cases h:g=1
   ·subst h;rw[c];rfl
   ·have r:(if a=true/\g≠1 then(1:Int)else 0)=1:=wd ⟨c,h⟩;rw[r];rcases Int.lt_or_gt_of_ne h with q|q
    ·rw[wd q];rfl
    ·rw[wc ae,wd q];rfl
  rw[this];exact e _
 ·refine zj TU<|zc rfl (zh ?_);rw[wc<|by rw[c];simp]at e;exact e _
theorem CH[Srt](A B:Rd)(e a c d:Bool)(j:c= !a)(f:d=true↔600<A.length\/600<B.length)(i:a=true->As A=true/\(e=true->As B=true))(b:∀ob,Q (.dat i64<|E A B e a) ob):Ends N1 (L7 A B e<|qw [Cb c 1,Cb d 4]) Q:=by
 subst j;unfold E at b;cases a with
 |false=>
  refine zj (DY ..)<|zc ?_<|zh<|b _;cases d<;>rfl
 |true=>
  rw[wc af]at b;cases d with
  |true=>
   rw[wd<|f.1 rfl]at b;exact zj (DY ..)<|zc rfl (zh<|b _)
  |false=>
   have k:¬(600<A.length\/600<B.length):=fun h=>by have:=f.2 h;cases this
   rw[wc k]at b;obtain⟨l,g⟩:=i rfl;exact zj (DY ..) (zn rfl (Gc A B e l g ae ae b))
theorem Cc[Srt](A B:Rd)(b a:Bool)(e:a=true->As A=true/\(b=true->As B=true))(d:∀ob,Q (.dat i64<|E A B b a) ob):Ends N1 (L4 A B b a) Q:=by
 refine zj (B1 ..)<|zc rfl (zl (fun c=>zc rfl (zc rfl ?_))<|fun c=>zc rfl (zc rfl ?_))
 ·have c:=w6 c;exact CH A B b a _ _ rfl ⟨fun _=>.inl ae,fun _=>rfl⟩ e d
 ·have c:=w7 c;exact CH A B b a _ _ rfl ⟨fun h=>.inr (by have:=w6 h;omega),fun h=>w4 ae⟩ e d
theorem CS[Srt](A B:Rd)(a:Bool)(b:∀ob,Q (.dat i64<|E A B a false) ob):Ends N1 (L5 A B a) Q:=by
 refine zj (D0 ..)<|zc rfl (zl (fun c=>zc rfl (zc rfl ?_))<|fun c=>zc rfl (zc rfl ?_))
 ·have c:=w6 c;exact CH A B a false _ _ rfl ⟨fun _=>.inl ae,fun _=>rfl⟩ (fun h=>by cases h) b
 ·have c:=w7 c;exact CH A B a false _ _ rfl ⟨fun h=>.inr (by have:=w6 h;omega),fun h=>w4 ae⟩ (fun h=>by cases h) b
theorem Fk[Srt](A B:Rd)(a:Bool)(d:As A=true/\(a=true->As B=true))(b:∀ob,Q (.dat i64<|E A B a true) ob):Ends N1 (L6 A B a) Q:=by
 refine zj (EW ..)<|zc rfl (zl (fun c=>zc rfl (zc rfl ?_))<|fun c=>zc rfl (zc rfl ?_))
 ·have c:=w6 c;exact CH A B a true _ _ rfl ⟨fun _=>.inl ae,fun _=>rfl⟩ (fun _=>d) b
 ·have c:=w7 c;exact CH A B a true _ _ rfl ⟨fun h=>.inr (by have:=w6 h;omega),fun h=>w4 ae⟩ (fun _=>d) b
theorem XA[Srt]{F:Tr}(A B:Rd)(f:Bool)(k:B.length<=1000000)(j:As A=true)(a:Bool)(b:a=(!f||(A2 B&&decide (B≠[48])&&decide (B≠[49]))))(g:∀ob,Q (.dat i64<|E A B f a) ob)
  (h:(f=true->Ends N1 (.ite (decide (B.length<=1000000)) (.ite (A2 B) (.ite (!B==[(48:UInt8)]) (L4 A B f<|!B==[(49:UInt8)])<|L5 A B f)<|L5 A B f) .fail) Q)->(f=false->a=true)->Ends N1 F Q):Ends N1 F Q:=by
 refine h (fun i=>zc (w4 k) ?_) (fun i=>by rw[b,i];rfl);rw[i]at b;refine zl (fun c=>zl (fun d=>?_)<|fun d=>?_)<|fun c=>?_
 ·have d:B≠[48]:=by simpa using d
  have e:a=(!B==[(49:UInt8)]):=by
   rw[b,c,w4 d];by_cases h:B=[49]
   ·rw[h];rfl
   ·rw[w4 h];simp[h]
  rw[<-e];exact Cc A B f a (fun _=>⟨j,fun _=>(Iq c).2⟩) g
 ·have d:B=[48]:=by simpa using d
  have e:a=false:=by rw[b,w8<|fun h=>h d];simp
  rw[e]at g;exact CS A B f g
 ·have e:a=false:=by rw[b,c];simp
  rw[e]at g;exact CS A B f g
theorem EA(s:Rd):(AJ s).length<=s.length/\(zw s).length<=s.length:=by
 unfold AJ zw;cases s.findIdx? (fun x=>x==47)with
 |none=>simp
 |some i=>simp;omega
theorem ZP(s:Rd):(A9 s).length<=s.length:=by
 unfold A9;split
 ·simp
 ·exact yr _
theorem ok[Srt]:Af AY 163 EC:=by
 refine BA xI<|fun(a:Rd) n=>?_;have n:a.length<=1000000:=w6 n;have l1:=ZP a;obtain⟨s,r⟩:=EA<|A9 a;have j:∀b,b=Hf a->∀ob,Ac EC a (.dat i64<|E (AJ<|A9 a) (zw<|A9 a) (BR<|A9 a) b) ob:=by
  rintro b rfl ob;exact yb rfl rfl rfl
 have g:Hf a=(A2 (AJ<|A9 a)&&(!qm a||decide (AJ (A9 a)≠[48]))&&(!BR (A9 a)||(A2 (zw<|A9 a)&&decide (zw (A9 a)≠[48])&&decide (zw (A9 a)≠[49])))):=rfl;refine zz (Aj a) (zc (Ab (w4 rfl)<|w4 n) (zc (Ab (w4 rfl)<|w4 ae) (zc (w4 ae) ?_)));generalize AJ (A9 a)=A at*;generalize zw (A9 a)=B at*;generalize BR (A9 a)=f at*;refine zl (fun c=>?_)<|fun c=>?_
 ·have k:=(Iq c).2;refine zl (fun d=>?_)<|fun d=>?_
  ·have i:Hf a=(!f||(A2 B&&decide (B≠[48])&&decide (B≠[49]))):=by rw[g,c,d];rfl
   refine XA A B f ae k (Hf a) i (j _ rfl)<|fun m p=>zj (Ak ..)<|zl m<|fun e=>?_;have q:=p e;exact Fk A B f ⟨k,fun h=>by rw[e]at h;cases h⟩<|j true q.symm
  ·by_cases l:A=[48]
   ·have i:Hf a=false:=by rw[g,d,w8<|fun h=>h l];simp
    have o:(!A==[(48:UInt8)])=false:=by rw[l];rfl
    rw[o];refine zj (Az ..) (zl (fun e=>zn rfl (CS A B f<|j false i.symm))<|fun e=>Cc A B f false (fun h=>by cases h)<|j false i.symm)
   ·have o:(!A==[(48:UInt8)])=true:=by simp[l]
    have i:Hf a=(!f||(A2 B&&decide (B≠[48])&&decide (B≠[49]))):=by rw[g,c,d,w4 l];rfl
    rw[o];refine XA A B f ae k (Hf a) i (j _ rfl)<|fun m p=>zj (Az ..)<|zl (fun e=>zc rfl (m e))<|fun e=>?_;have q:=p e;exact Cc A B f true (fun _=>⟨k,fun h=>by rw[e]at h;cases h⟩)<|j true q.symm
 ·have i:Hf a=false:=by rw[g,c];simp
  exact zj (Be ..)<|zl (fun e=>CS A B f<|j false i.symm)<|fun e=>CS A B f<|j false i.symm
end T163
theorem Es(c:UInt8)(r:Rd):AJ (c::r)=if c=47 then[]else c::AJ r:=by
 unfold AJ;grind
namespace T139
theorem Au[Srt]{Q:PV->Ob->Prop}(s:Rd)(k:s.length<=9223372036854775807):∀(r:Rd) (i:Nat),s.drop i=r->i<=s.length->(∀ob,Q (.dat i64 (((i+(AJ r).length:Nat)):Int)) ob)->Ends Pr (L1 s i) Q
 |[],i,h,b,a=>by
  have f:i=s.length:=drop_nil h b;subst f;exact zj (Ak ..) (zn (by simp)<|zh<|a _)
 |c::r,i,h,b,a=>by
  obtain⟨e,l,m⟩:=drop_cons (d:=0) h;have g:zf .i64 ((i:Int)+1)=((i+1:Nat):Int):=by grind [wr]
  rw[Es]at a;refine zj (Ak ..) (zc ah ?_);rw[zg,l,g];refine zc ah<|zl (fun d=>?_)<|fun d=>?_
  ·have j:c=47:=by
    exact yg.1 ah
   simp_all
  ·have j:c≠47:=by rintro rfl;grind
   refine Au s k r (i+1) m e<|fun ob=>?_;grind
theorem ok[Srt]:Af AY 139 QY:=by
 refine BA Fi<|fun(s:Rd) a=>?_;have a:s.length<=1000000:=w6 a;refine zz (Aj s) (Au s ae s 0 rfl ae (fun ob=>yb rfl rfl ?_));rw[qf];rfl
theorem okU[Srt]:Af AY 139 dV:=by
 refine BA Fi<|fun(s:Rd) a=>?_;have a:s.length<=9223372036854775807:=w6 a;refine zz (Aj s) (Au s a s 0 rfl ae (fun ob=>yb rfl rfl ?_));rw[qf];rfl
end T139
namespace T140
theorem Wl{s:Rd}{r:Rd}{c:UInt8}{i:Nat}(h:s.drop i=c::r):As (s.drop i)=(B5 c&&As (s.drop<|i+1)):=by
 obtain⟨_,_,a⟩:=drop_cons (d:=0) h;rw[a,h];rfl
theorem Au[Srt](s:Rd)(l:s.length<=9223372036854775807):∀(r:Rd) (i:Nat),s.drop i=r->i<=s.length->(∀ob,Q (.bl<|As<|s.drop i) ob)->Ends Pr (L1 s s i) Q
 |[],i,h,b,a=>by
  have j:i=s.length:=drop_nil h b;rw[h]at a;subst j;exact zj (Ak ..) (zn (by simp)<|zh<|a _)
 |c::r,i,h,b,a=>by
  obtain⟨g,m,n⟩:=drop_cons (d:=0) h;have k:zf .i64 ((i:Int)+1)=((i+1:Nat):Int):=by grind [wr]
  rw[Wl h]at a;refine zj (Ak ..) (zc ah ?_);rw[zg,m,k];refine zc ah (zl (fun d=>?_) (fun d=>zc ah<|zl (fun e=>?_)<|fun e=>?_))
  ·grind [B5,zh]
  ·have f:B5 c=false:=by unfold B5;grind
   simp_all
  ·have f:B5 c=true:=by grind [B5]
   rw[f,yn]at a;exact Au s l r (i+1) n g a
theorem A5[Srt](s:Rd)(l:s.length<=9223372036854775807):∀(r:Rd) (i:Nat),s.drop i=r->i<=s.length->(∀ob,Q (.bl<|As<|s.drop i) ob)->Ends Pr (L2 s s i) Q
 |[],i,h,b,a=>by
  have j:i=s.length:=drop_nil h b;rw[h]at a;subst j;exact zj (Az ..) (zn (by simp)<|zh<|a _)
 |c::r,i,h,b,a=>by
  obtain⟨g,m,n⟩:=drop_cons (d:=0) h;have k:zf .i64 ((i:Int)+1)=((i+1:Nat):Int):=by grind [wr]
  rw[Wl h]at a;refine zj (Az ..) (zc ah ?_);rw[zg,m,k];refine zc ah (zl (fun d=>?_) (fun d=>zc ah<|zl (fun e=>?_)<|fun e=>?_))
  ·grind [B5,zh]
  ·have f:B5 c=false:=by unfold B5;grind
   simp_all
  ·have f:B5 c=true:=by grind [B5]
   rw[f,yn]at a;exact A5 s l r (i+1) n g a
theorem okU[Srt]:Af AY 140 Vm:=by
 refine BA Fi<|fun(s:Rd) a=>?_;have a:s.length<=9223372036854775807:=w6 a;have f:∀b ob,b=A2 s->Ac Vm s (.bl b) ob:=fun b ob i=>yb rfl rfl i
 refine zz (Aj s) ?_;conv=>zeta
 cases s with
 |nil=>exact zc rfl (zh<|f _ _ rfl)
 |cons c r=>
  have g:(c::r).getD 0 0=c:=rfl;rw[g];refine zn (by rfl) (zl (fun d=>zc (by simp)<|zl (fun e=>zh<|f _ _ ?_)<|fun e=>?_)<|fun d=>?_)
  ·have h:c=48:=by
    exact yg.1 ah
   grind [A2]
  ·have h:c≠48:=by rintro rfl;grind
   refine Au (c::r) a (c::r) 0 rfl ae (fun ob=>f _ _ ?_);grind [A2]
  ·have hr:r=[]:=by
    grind
   subst hr;refine A5 [c] a [c] 0 rfl ae (fun ob=>f _ _ ?_);grind [A2]
end T140
theorem yH[Srt]:Cv XK2:=Aa T149.ok AB
namespace T143
theorem RO{v:Int}(a: -9223372036854775808<=v/\v<9223372036854775808):∃q d:Nat,Ai v=d+1000000000*q/\d<1000000000/\zf .i64 (yw v 1000000000)=(if v<0 then -(q:Int)else q)/\qj v 1000000000=(if v<0 then -(d:Int)else d):=by
 refine⟨v.natAbs/1000000000,v.natAbs % 1000000000,by rw[Al];omega,by omega,?_,?_⟩
 ·by_cases h:v<0
  ·have:=Int.neg_tdiv (-v) 1000000000;rw[Int.neg_neg]at this;rw[this,zt ae,wd h,wr _ ae ae];omega
  ·rw[zt ae,wc h,wr _ ae ae];omega
 ·by_cases h:v<0
  ·have:=Int.neg_tmod (-v) 1000000000;grind
  grind
theorem A5[Srt](neg:Bool)(D:Int)(m:∀(w:List Int) ob,AA zd w->ze zd w=D->Q (.agg [.dat .bool<|CQ neg w,.dat li<|AD w]) ob):∀(f:Nat) (v:Int) (o1:List Int),Ai v<f->(-9223372036854775808<=v/\v<9223372036854775808)->o1.length<=100->(Ai v≠0->Ai v*1000000000^o1.length<=9223372036854775808)->AA zd o1->ze zd o1+(zd:Int)^o1.length*Ai v=D->Ends XK2 (L2 v o1.length neg o1) Q
 |0,v,o1,l,e,n,k,a,h=>by
  have:=AP v;omega
 |f+1,v,o1,l,e,n,k,a,h=>by
  obtain⟨q,d,s1,s2,s3,s4⟩:=RO e;by_cases h0:v=0
  ·subst h0;have o:Ai 0=0:=rfl;refine zj (Az ..)<|zn rfl ?_;grind [zc,zh]
  ·have i:Ai v≠0:=by rw[Al];omega
   have b:o1.length<=10:=by
    rcases Nat.lt_or_ge 10 o1.length with g|g
    ·have j:(1000000000:Int)^11<=1000000000^o1.length:=AT af g;have r:=zq (show 1<=Ai v by omega) (show(0:Int)<=1000000000^o1.length by omega);omega
    omega
   have eq:Ai (if v<0 then -(q:Int)else q)=q:=by grind [Al]
   have go:Ends XK2 (L2 (if v<0 then -(q:Int)else q) (qv o1.length 1) neg<|o1++[(d:Int)]) Q:=by
    have:=A5 neg D m f (if v<0 then -(q:Int)else q) (o1++[(d:Int)]) ae (by grind [Al]) ah (fun _=>by
     rw[eq,zx];show(q:Int)*1000000000^(o1.length+1)<=_;rw[yp, <-y8,Int.mul_right_comm];have j:=zq (show(q:Int)*1000000000<=Ai v by omega) (show(0:Int)<=1000000000^o1.length from ah);omega) (F5 a ae) (by
     rw[eq,CE,zx];show ze zd o1+(zd:Int)^o1.length*(d:Int)+(zd:Int)^(o1.length+1)*(q:Int)=D;grind)
    grind
   refine zj (Az ..) (zc ah<|zc rfl ?_);refine zl (fun c=>zc ah<|zc rfl ?_) (fun c=>zc ah<|zc rfl ?_)
   ·have p:zf .i64 (0 - -(d:Int))=(d:Int):=by grind [wr]
    grind
   grind
theorem ok[Srt]:Af AY 143 IE:=by
 refine BA yH<|fun(v:Int) a=>?_;have a:=Fa (n:=v) a;have fin:∀(w:List Int) ob,AA zd w->ze zd w=Ai v->Ac IE v (.agg [.dat .bool<|CQ (decide (v<0)) w,.dat li<|AD w]) ob:=by
  intro w ob f g;refine yb rfl rfl ?_;have:=Nq (neg:=decide (v<0)) f g;have e:(if decide (v<0)=true then -Ai v else Ai v)=v:=by
   rw[Al];grind
  rw[e]at this;exact this
 obtain⟨q,d,s1,s2,s3,s4⟩:=RO a;refine zz (Aj v) ?_;conv=>zeta
 by_cases h0:v=0
 ·subst h0;exact zj (Ak ..) (zn rfl (zc rfl (zh<|fin [] _ (fun x b=>by cases b) rfl)))
 ·have eq:Ai (if v<0 then -(q:Int)else q)=q:=by grind [Al]
  have go:Ends XK2 (L2 (if v<0 then -(q:Int)else q) 1 (decide (v<0)) [(d:Int)]) (Ac IE v):=by
   refine A5 (decide (v<0)) (Ai v) fin (q+1) _ [(d:Int)] ae (by grind [Al]) (by simp) (fun _=>?_) (fun x b=>by grind) ?_
   ·grind [Al]
   grind [EH]
  refine zj (Ak ..) (zc ah<|zc rfl ?_);refine zl (fun c=>zc rfl (zc rfl ?_))<|fun c=>zc rfl (zc rfl ?_)
  ·have h:zf .i64 (0 - -(d:Int))=(d:Int):=by grind [wr]
   grind
  grind
end T143
theorem AbY[Srt]:Cv XK3:=Aa T139.ok<|Aa T138.ok<|Aa T143.ok AB
theorem BX:∀(s:Rd),AJ s=s.take (AJ s).length/\(BR s=true->(AJ s).length<s.length/\zw s=s.drop ((AJ s).length+1))/\(BR s=false->AJ s=s/\zw s=[])
 |[]=>⟨rfl,(fun h=>(by cases h)),fun _=>⟨rfl,rfl⟩⟩
 |c::r=>by
  obtain⟨d,e,f⟩:=BX r;have b:zw (c::r)=if c=47 then r else zw r:=by
   unfold zw;grind
  have a:BR (c::r)=(decide (c=47)||BR r):=by
   rfl
  rw[Es,b,a];grind
theorem T82.ok[Srt]:Af AY 82 Pj:=by
 refine BA AbY<|fun(a:Rd) b=>?_;have b:(D1 (AJ a)&&D1 (zw a)&&decide (a.length<=5999))=true:=b;rw[zk,zk,w5]at b;obtain⟨⟨e,i⟩,k⟩:=b;obtain⟨c1,c2,c3⟩:=BX a;have es:A3 a=((AJ a).length:Int):=rfl;refine zz (T82.Aj a) (zc ah<|zl (fun c=>?_)<|fun c=>?_)
 ·have d:BR a=false:=by
   grind
  obtain⟨f,g⟩:=c3 d;rw[f]at e;refine zc e<|zc rfl (zh<|yb rfl rfl ?_);show((Gy a,Ek a),(false,Sp.rW 1))=((BZ a,BQ a),(Bv a,Bp a));unfold BZ BQ Bv Bp Bo AZ Gy Ek;rw[f,d];rfl
 ·have d:BR a=true:=by
   grind
  obtain⟨f,g⟩:=c2 d;have j:zf .i64 (((AJ a).length:Int)+1)=(((AJ a).length+1:Nat):Int):=by grind [wr]
  have h:(a.drop<|(AJ a).length+1).take (yi a.length<|(AJ a).length+1)=a.drop ((AJ a).length+1):=zm (by simp);rw[es,j,zg,zg,h, <-c1, <-g];refine zc ah (zc ah<|zc e<|zc i<|zh<|yb rfl rfl ?_);show((Gy<|AJ a,Ek<|AJ a),(Gy<|zw a,Ek<|zw a))=((BZ a,BQ a),(Bv a,Bp a));grind [BZ,BQ,Bv,Bp,Bo,AZ,Gy,Ek]
theorem zJ[Srt]:Cv Xc:=Aa T139.okU (by grind [Aa,T140.okU,T82.ok,T141.ok,Md])
namespace T78
theorem zI{g:Int}(h0:0<=g):BW g=[1]↔g=1:=by
 constructor
 ·intro h;have:=Di (b:=zd) af h0;have h:Sp.dg zd g=[1]:=h;rw[h]at this;rw[<-this];rfl
 ·rintro rfl;rfl
theorem Cc[Srt](s:Rd)(m:As (AJ s)=true)(b:BR s=true->As (zw s)=true)(v:(AJ s).length<=600)(u:(zw s).length<=600)(B:s.length<=5999)
  (a:∀ob,Q (.dat i64<|if BR s=true/\qc (AI 0<|AJ s) (AI 0<|zw s)≠1 then 1 else 0) ob):Ends Xc (L4 s<|A3 s) Q:=by
 obtain⟨A,D,C⟩:=BX s;have es:A3 s=((AJ s).length:Int):=rfl;refine zj (B1 ..) ?_;conv=>zeta
 refine zl (fun c=>?_)<|fun c=>?_
 ·have e:BR s=true:=by
   grind
  have b:=b e;obtain⟨F,E⟩:=Mo m ae;obtain⟨r3,r4⟩:=Mo b ae;have i:=Bn m;have j:=Bn b;have o:∀k:Nat,(10:Int)^k<=(zd:Int)^k:=by
   intro k;induction k with
   |zero=>simp
   |succ k z=>
    grind
  have n:AI 0 (AJ s)<(zd:Int)^600:=zy i.2 (Int.le_trans (o _)<|AT af v);have l:AI 0 (zw s)<(zd:Int)^600:=zy j.2 (Int.le_trans (o _) (AT af u));have w:BQ s=BW (AI 0<|AJ s):=by
   grind [BQ,Bo,Sp.rW,Al]
  have t:Bp s=BW (AI 0<|zw s):=by
   unfold Bp AZ Sp.rW;rw[wd e,r4,show Ai (AI 0<|zw s)=AI 0 (zw s)by rw[Al];omega]
  obtain⟨n1,_,v1,l1⟩:=Gs (k:=600) i.1 n af;obtain⟨n2,_,v2,l2⟩:=Gs (k:=600) j.1 l af;have rat:DS s=true:=by
   grind [DS]
  rw[w,t];refine zc rat (zj (D0 ..)<|zc ah ?_);have q:CI (BW<|AI 0<|AJ s) (BW<|AI 0<|zw s)=BW (qc (AI 0<|AJ s)<|AI 0<|zw s):=by
   grind [CI]
  rw[q];obtain⟨p,_⟩:=AcU i.1 j.1 n l;generalize qc (AI 0<|AJ s) (AI 0<|zw s)=g at*;have r:=zI p;by_cases h:g=1
  ·rw[wc ae]at a;rw[r.2 h];exact zj (EW ..)<|zn rfl (zc rfl (zn rfl (zh<|a _)))
  ·rw[wd ⟨e,h⟩]at a;have f:BW g≠[1]:=ah;refine zj (EW ..)<|zl (fun d=>zh<|a _)<|fun d=>?_;have d:(BW g).length=1:=by
    grind
   obtain⟨x,y⟩:=qg.1 d;rw[y]at f ⊢;exact zc rfl (by grind [zc,zh])
 ·rw[wc ah]at a;exact zh<|a _
theorem A5[Srt](s:Rd)(k:As (AJ s)=true)(j:s.length<=9223372036854775807)(a:∀ob,Q (.dat i64<|T163.E (AJ s) (zw s) (BR s)<|!BR s||(A2 (zw s)&&decide (zw s≠[48])&&decide (zw s≠[49]))) ob):Ends Xc (L2 s<|A3 s) Q:=by
 obtain⟨i,n,l⟩:=BX s;have es:A3 s=((AJ s).length:Int):=rfl;have g:=T163.EA s;have big:(BR s=true->As (zw s)=true)->(∀ob,Q (.dat i64<|T163.E (AJ s) (zw s) (BR s) true) ob)->Ends Xc (L3 s<|A3 s) Q:=by
  intro m a;unfold T163.E at a;rw[wc af]at a;have b:s.length=(AJ s).length+(if BR s=true then 1+(zw s).length else 0):=by
   grind
  refine zj (Be ..) ?_;conv=>zeta
  rw[es,wr ((s.length:Int)-((AJ s).length:Int)) ae ae,wr _ ae ae];refine zl (fun c=>?_)<|fun c=>zl (fun d=>?_)<|fun d=>?_
  ·have c:=w6 c;rw[wd<|ae]at a;exact zh<|a _
  ·have:600<(zw s).length:=ah
   rw[wd<|.inr this]at a;exact zh<|a _
  ·grind [Cc]
 refine zj (Az ..) ?_;conv=>zeta
 cases h:BR s with
 |false=>
  grind [zn]
 |true=>
  have o:zf .i64 (((AJ s).length:Int)+1)=(((AJ s).length+1:Nat):Int):=by grind [wr]
  have bad:(!true||(A2 (zw s)&&decide (zw s≠[48])&&decide (zw s≠[49])))=false->∀ob,Q (.dat i64 1) ob:=by
   grind [T163.E]
  refine zc ah (zc ah<|zc ah<|zl (fun d=>zh<|bad ?_ _)<|fun d=>zc ah (zl (fun e=>zh<|bad ?_ _)<|fun e=>zc ah<|zl (fun f=>zh<|bad ?_ _)<|fun f=>?_))
  ·grind
  ·grind
  ·grind
  grind [Iq]
theorem Au[Srt](a s:Rd)(g:s=A9 a)(j:a.length<=9223372036854775807)(l:∀ob,Q (.dat i64<|Ap a) ob):Ends Xc (L1 a s) Q:=by
 obtain⟨c,o,m⟩:=BX s;have es:A3 s=((AJ s).length:Int):=rfl;have i:s.length<=a.length:=by grind [T163.ZP]
 have n:Ap a=T163.E (AJ s) (zw s) (BR s) (A2 (AJ s)&&(!qm a||decide (AJ s≠[48]))&&(!BR s||(A2 (zw s)&&decide (zw s≠[48])&&decide (zw s≠[49])))):=by rw[g];rfl
 have tk:s.take (AJ s).length=AJ s:=c.symm;refine zj (Ak ..) ?_;conv=>zeta
 rw[show A3 s=((AJ s).length:Int)from rfl,zg,tk];refine zc ah (zc ah<|zc ah<|zl (fun d=>?_)<|fun d=>?_)
 ·grind [zh,T163.E]
 ·have d:A2 (AJ s)=true:=ah
  have k:=(Iq d).2;have b:a.length≠0:=by
   grind [A2]
  refine zc ah (zl (fun e=>zc ah<|zl (fun f=>?_)<|fun f=>?_)<|fun e=>?_)
  ·have hp:qm a=true:=by
    refine w4<|yg.1 ?_;grind
   grind [zh,T163.E]
  ·grind [A5]
  ·have hp:qm a=false:=by
    refine w8<|fun h=>?_;rw[h]at e;grind
   grind [A5]
theorem ok[Srt]:Af AY 78 EC:=by
 refine BA zJ<|fun(a:Rd) f=>?_;have f:a.length<=1000000:=w6 f;have b:∀ob,Ac EC a (.dat i64<|Ap a) ob:=fun ob=>yb rfl rfl rfl
 refine zz (Aj a) ?_;conv=>zeta
 cases a with
 |nil=>exact zn rfl (Au [] [] rfl ae b)
 |cons c r=>
  have g:(c::r).getD 0 0=c:=rfl;rw[g];refine zc (by simp) (zc (by simp)<|zl (fun d=>zc (by simp) ?_)<|fun d=>?_)
  ·have h:c=45:=by
    exact yg.1 ah
   have e:(qd 1 (c::r)).take (yi (c::r).length 1)=r:=by simp
   rw[e];exact Au (c::r) r (by simp_all [A9]) ae b
  ·have h:c≠45:=by rintro rfl;grind
   exact Au (c::r) (c::r) (by simp_all [A9]) ae b
end T78
end Go.Pe
