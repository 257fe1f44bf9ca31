import Derived.Test.YtobmcolckeoejaaGreatDoorX11
/- A part of a proof; no law is stated here. -/
open Go.Pe.Ends renaming tt -> zc, leaf -> zh, An -> zj, ite -> zk, ff -> zn, eq -> zz
open Go.Sp renaming B9 -> zd, val -> ze, AV -> zw, gI -> qc, vI -> ql, preB -> qm, first -> qw
open Go.IntKind renaming wrap -> zf
open Int renaming toNat_natCast -> zg, mul_le_mul_of_nonneg_left -> zi, mul_le_mul_of_nonneg_right -> zq, tdiv_eq_ediv_of_nonneg -> zt, mul_add -> zu, lt_of_lt_of_le -> zy, mul_comm -> z6, le_of_lt -> z7, mul_nonneg -> z8, eq_ofNat_of_zero_le -> yg, mul_lt_mul_of_pos_right -> yh, tmod_eq_emod_of_nonneg -> yj, lt_of_mul_lt_mul_left -> ym, pow_succ -> yp, one_mul -> yq, lt_or_le -> yv, tdiv -> yw, emod_lt_of_pos -> yx, mul_one -> yy, mul_sub -> yz, mul_assoc -> y8, emod_nonneg -> qi, tmod -> qj, add_assoc -> qn, mul_zero -> qp, add_zero -> qq, zero_mul -> qt, pow_zero -> qu
open Bool renaming and_eq_true -> zl, true_and -> yn
open List renaming take_of_length_le -> zm, length_drop -> zo, replicate -> zp, length_take -> zr, length_append -> zx, length_eq_zero_iff -> ya, take_length -> yc, take_append_drop -> yd, dropWhile_cons -> yf, getD_eq_getElem?_getD -> yk, dropLast_concat_getLast -> yt, mem_cons -> y7, all_eq_true -> y9, drop -> qd, all_reverse -> qe, length_eq_one_iff -> qg, nil_append -> qh, all_cons -> qo
open Go.Pe.Ad renaming of -> yb
open UInt8 renaming toNat_inj -> ye
open Nat renaming sub -> yi, add_sub_cancel -> yo, le_refl -> yr, min_eq_left -> yu, zero_add -> qf, add -> qv
namespace Go.Sp
theorem PI{l:List Int}(h:Kp l=true):l.length<=20000/\Az B9 l:=by
 unfold Kp at h;rw[zl,w5,y9]at h;exact⟨h.1,fun d a=>by
  grind⟩
theorem LR{l:List Int}(b:l.length<=20000)(c:Az B9 l):Kp l=true:=by
 unfold Kp;rw[zl,w5,y9];exact⟨b,fun d a=>by
  have:=c d a;grind⟩
theorem Ab9{l:List Int}(h:hR l=true):l.length<=9000/\Az B9 l:=by
 unfold hR at h;grind [PI]
theorem Zm{l:List Int}(b:l.length<=9000)(a:Az B9 l):hR l=true:=by
 unfold hR;rw[LR ae a,yn];grind
theorem Bq{l:List Int}(h:A8 l=true):l.length<=20000/\Az B9 l/\nz l:=by
 unfold A8 at h;rw[zl]at h;have:=PI h.1;exact⟨this.1,this.2,by
  have:=h.2;unfold nzW at this;have:l.getLast?≠some 0:=ah;exact this⟩
theorem pT{l:List Int}(c:l.length<=20000)(b:Az B9 l)(a:nz l):A8 l=true:=by
 unfold A8 nzW;rw[LR c b,yn];exact w4 a
theorem G5{l:List Int}(h:Az B9 l)(i:Nat):0<=l.getD i 0/\l.getD i 0<1000000000:=KT af h i
theorem Fy{l:List Int}{x:Int}(h:Az B9 l)(a:0<=x/\x<1000000000):Az B9 (l++[x]):=(by grind [Az])
theorem Cm(l:List Int)(x:Int):val B9 (l++[x])=val B9 l+(B9:Int)^l.length*x:=by
 grind [C3,val]
theorem Mg(i:Nat)(c:Int):(B9:Int)^(i+1)*c=(B9:Int)^i*(1000000000*c):=by
 grind
theorem F5{l:List Int}(h:Az B9 l):AB l=B7 (Ax l):=cH af h
theorem OJ{n:Int}{k:Nat}(_:0<=n)(h:n<(B9:Int)^k):(B7 n).length<=k:=by
 refine OC B9 af k n.toNat n.toNat ?_;grind
theorem Ho{n:Int}{k:Nat}(h0:0<=n)(h:n<(B9:Int)^k)(a:k<=9000):A8 (B7 n)=true/\hR (B7 n)=true/\Ax (B7 n)=n/\(B7 n).length<=k:=by
 have c:=OJ h0 h;have d:=FI (b:=B9) af n;grind [pT,Z1,C2,A8,B7,hR,Ax]
end Go.Sp
variable {Q:Go.Pe.PV->Go.Pe.Ob->Prop}
namespace Go.Pe
open Sp
open Go.Det
theorem Tp[Srt]:CL uT:=fun g sp h=>by cases h
namespace T147
theorem Ar[Srt]{Q:PV->Ob->Prop}:∀(n:Nat) (w:List Int),w.length=n->n<=20000->(∀ob,Q (.dat li<|AB w) ob)->Ends uT (L1 w) Q
 |0,w,d,_,b=>by
  have:w=[]:=ah;subst this;exact zj (Al ..) (zn (by simp)<|zh<|b _)
 |n+1,w,d,g,b=>by
  obtain⟨p,x,rfl⟩:∃p x,w=p++[x]:=by
   have a:w≠[]:=ah
   exact⟨w.dropLast,w.getLast a,(yt a).symm⟩
  have hp:p.length=n:=ah
  have e:zf .i64 (((p++[x]).length:Int)-1)=(n:Int):=by grind [wr]
  have f:(p++[x]).getD n 0=x:=ah;have t1:(p++[x]).take n=p:=ah
  refine zj (Al ..) (zc (by simp) ?_);rw[e,zg,f,t1];refine zc ah (zk (fun c=>zc ah ?_)<|fun c=>?_)
  ·have c:x=0:=ah
   subst c;rw[IX]at b;exact Ar n p hp ae b
  grind [Jh,Zx,zh]
theorem ok[Srt]:Af A5 147 T1:=by
 refine BG Tp<|fun(w:List Int) a=>?_;have a:w.length<=20000:=w6 a;exact zz (Ak w)<|Ar w.length w rfl a (fun ob=>yb rfl rfl rfl)
end T147
theorem TF[Srt]:CL iT:=Aa T147.ok AI
theorem T110.ok[Srt]:Af A5 110 Hj:=by
 refine BG TF<|fun(i:Bool×List Int) hi=>?_;obtain⟨n,w⟩:=i;refine zz (T110.Ak n w)<|zc hi<|zk (fun c=>zh<|yb rfl rfl ?_)<|fun c=>zh<|yb rfl rfl ?_
 ·show(decide (((AB w).length:Int)>0),AB w)=(CY n w,AB w);unfold CY;congr 1;grind [ya]
 grind [CY,Hj]
namespace T112
theorem Ar[Srt]{Q:PV->Ob->Prop}(a b:List Int)(f:Az zd a)(g:Az zd b)(j:a.length=b.length)(n:b.length<=20000)(m:∀ob,Q (.dat i64<|Cp (Ax a)<|Ax b) ob):∀(i:Nat),i<=a.length->a.drop i=b.drop i->Ends uT (L1 a b<|(i:Int)-1) Q
 |0,o,k=>by
  simp_all [Cp,zj,Al]
 |i+1,o,k=>by
  have l:(((i+1:Nat):Int)-1)=(i:Int):=ae
  have h:a.drop i=a.getD i 0::a.drop (i+1):=Co ae;have db:b.drop i=b.getD i 0::a.drop (i+1):=by grind [Co]
  rw[l];refine zj (Al ..) (zc (by simp) ?_);refine zc ah (zc ah (zk (fun d=>?_)<|fun d=>zc ah<|zc ah<|zk (fun c=>?_)<|fun c=>?_))
  ·have d:=w6 d;have:=JL (b:=zd) af f g h db d;simp_all [Cp,Ax]
  ·have c:=w6 c;have:=JL (b:=zd) af g f db h c;have e:Cp (Ax a) (Ax b)=1:=by unfold Cp Ax;omega
   simp_all
  ·rw[wr ((i:Int)-1) ae ae];exact Ar a b f g j n m i ae ah
theorem ok[Srt]:Af A5 112 bJ:=by
 refine BG Tp<|fun(i:List Int×List Int) f=>?_;obtain⟨a,b⟩:=i;have f:(A8 a&&A8 b)=true:=f;rw[zl]at f;obtain⟨a1,a2,a3⟩:=Bq f.1;obtain⟨b1,b2,b3⟩:=Bq f.2;have g:∀ob,Ad bJ (a,b) (.dat i64<|Cp (Ax a)<|Ax b) ob:=fun ob=>yb rfl rfl rfl
 refine zz (Ak a b)<|zk (fun c=>zk (fun d=>?_)<|fun d=>?_)<|fun c=>?_
 ·simp_all [Cp,Ax,EJ]
 ·have d:=w7 d;have c:(a.length:Int)≠b.length:=ah
  have:=EJ (b:=zd) af b2 a2 a3 ae;have e:Cp (Ax a) (Ax b)=1:=by
   unfold Cp Ax;omega
  simp_all
 grind [wr,Ar]
end T112
theorem gQ{x y o c:Int}(b:0<=x/\x<1000000000)(d:0<=y/\y<1000000000)(f:0<=o/\o<1000000000)(g:0<=c/\c<1000000000):
  zf .i64 (zf .i64 (o+zf .i64 (x*y))+c)=o+x*y+c/\qj (o+x*y+c) 1000000000=(o+x*y+c) % 1000000000/\zf .i64 (yw (o+x*y+c) 1000000000)=(o+x*y+c)/1000000000/\
  (0<=(o+x*y+c)/1000000000/\(o+x*y+c)/1000000000<1000000000)/\(0<=(o+x*y+c) % 1000000000/\(o+x*y+c) % 1000000000<1000000000):=by
 have h0:0<=x*y:=z8 b.1 d.1;have e:x*y<=999999999*999999999:=by
  have a:=zi (show y<=999999999 by omega) b.1;omega
 grind [wr]
namespace T114
theorem A1[Srt](x y:List Int)(n i:Nat)(L:i<x.length)(F:n=x.length+y.length)(f:x.length<=9000)(g:y.length<=9000)(o:Az zd x)(s:Az zd y)(p:List Int)(hp:p.length=i+y.length)(a:Az zd p)
  (r:∀q c,q.length=i+y.length->Az zd q->(0<=c/\c<1000000000)->ze zd q+(zd:Int)^(i+y.length)*c=ze zd p+(zd:Int)^i*(x.getD i 0*ze zd y)->Ends iT (L1 x y n ((i+1:Nat):Int)<|(q++[c])++zp (n-(i+y.length+1)) 0) Q):∀(k j:Nat) (q:List Int) (c:Int),j+k=y.length->q.length=i+j->Az zd q->(0<=c/\c<1000000000)->ze zd q+(zd:Int)^(i+j)*c=ze zd (p.take<|i+j)+(zd:Int)^i*(x.getD i 0*ze zd (y.take j))->
  Ends iT (L2 x y n i c j<|q++(p.drop (i+j)++zp (n-(i+y.length)) 0)) Q
 |0,j,q,c,m,b,d,h,I=>by
  have m:j=y.length:=ae
  subst m;have l:zf .i64 ((i:Int)+(y.length:Int))=((i+y.length:Nat):Int):=by rw[wr _ ae ae];omega
  have e:zf .i64 ((i:Int)+1)=((i+1:Nat):Int):=by grind [wr]
  have t:p.drop (i+y.length)=[]:=ah;have u:(q++zp (n-(i+y.length)) (0:Int)).getD (i+y.length) 0=0:=by
   have:n-(i+y.length)=(n-(i+y.length+1))+1:=ae
   simp_all
  refine zj (AL ..) (zn (by simp) ?_);rw[l,e,zg,t,qh,u,Int.zero_add,wr c ae ae,JF q n _ c b ae];refine zc (by simp;omega) (zc (by simp;omega) (zc (by simp;omega)<|zc (by simp;omega)<|r q c b d h ?_));grind
 |k+1,j,q,c,m,b,d,h,I=>by
  have K:=G5 o i;have J:=G5 s j;have E:=G5 a<|i+j;have N:p.drop (i+j)=p.getD (i+j) 0::p.drop (i+j+1):=Co ae;have l:zf .i64 ((i:Int)+(j:Int))=((i+j:Nat):Int):=by rw[wr _ ae ae];omega
  have e:=wn (i:=j) ae;have B:(q++(p.drop (i+j)++zp (n-(i+y.length)) (0:Int))).getD (i+j) 0=p.getD (i+j) 0:=by
   grind [E0]
  have s1:∀z,(q++(p.drop (i+j)++zp (n-(i+y.length)) (0:Int))).set (i+j) z=(q++[z])++(p.drop (i+(j+1))++zp (n-(i+y.length)) 0):=by
   grind [Dn]
  obtain⟨M,w,v,H,D⟩:=gQ K J E h;refine zj (AL ..) (zc ah ?_);rw[l,e,zg,zg,zg,B,M,w,v,s1];have t1:(decide ((0:Int)<=((i+j:Nat):Int))&&decide (((i+j:Nat):Int)<(n:Int)))=true:=by simp;omega
  refine zc t1 (zc ah (zc ah<|zc (by simp;omega)<|zc rfl (zc t1<|zc ah<|zc rfl ?_)));refine A1 x y n i L F f g o s p hp a r k (j+1) _ _ ae (by simp;omega) (Fy d D) H ?_;have G:i+(j+1)=(i+j)+1:=ae
  have C:(zd:Int)^i*(x.getD i 0*((zd:Int)^j*y.getD j 0))=(zd:Int)^(i+j)*(x.getD i 0*y.getD j 0):=by
   grind
  have A:(p.getD (i+j) 0+x.getD i 0*y.getD j 0+c) % 1000000000+1000000000*((p.getD (i+j) 0+x.getD i 0*y.getD j 0+c)/1000000000)=x.getD i 0*y.getD j 0+p.getD (i+j) 0+c:=by
   omega
  rw[G,Cm,b,Mg,qn, <-zu,A,AH _ p<|i+j,AH _ y j,zu,zu,zu<|x.getD i 0,zu,C];omega
theorem Ar[Srt](x y:List Int)(n:Nat)(j:n=x.length+y.length)(b:x.length<=9000)(a:y.length<=9000)(h:Az zd x)(g:Az zd y)(o:∀ob,Q (.dat li<|B7<|Ax x*Ax y) ob):∀(k i:Nat) (p:List Int),i+k=x.length->p.length=i+y.length->Az zd p->ze zd p=ze zd (x.take i)*ze zd y->
  Ends iT (L1 x y n i<|p++zp (n-(i+y.length)) 0) Q
 |0,i,p,l,hp,d,e=>by
  subst l;have r:Ax p=Ax x*Ax y:=by
   rw[yc]at e;exact e
  refine zj (Al ..) (zn (by simp) ?_);grind [zc,zh,F5]
 |k+1,i,p,l,hp,d,e=>by
  refine zj (Al ..) (zc ah ?_);have:=A1 (Q:=Q) x y n i ae j b a h g p hp d (fun q c s f m r=>by
   have:=Ar x y n j b a h g o k (i+1) (q++[c]) ae ah (Fy f m) (by
    grind [Cm,AH])
   grind) y.length 0 (p.take i) 0 ae ah (AR d i) af (by simp[ze])
  rw[Nat.add_zero, <-List.append_assoc,yd]at this;omega
theorem ok[Srt]:Af A5 114 aR:=by
 refine BG TF<|fun(i:List Int×List Int) a=>?_;obtain⟨x,y⟩:=i;have a:(Sp.hR x&&Sp.hR y)=true:=a;rw[zl]at a;obtain⟨x1,x2⟩:=Ab9 a.1;obtain⟨y1,y2⟩:=Ab9 a.2;have b:zf .i64 ((x.length:Int)+(y.length:Int))=((x.length+y.length:Nat):Int):=by grind [wr]
 refine zz (Ak x y) ?_;conv=>zeta
 rw[b,zg];refine zc (by simp;omega) ?_;have:=Ar (Q:=Ad aR (x,y)) x y (x.length+y.length) rfl x1 y1 x2 y2 (fun ob=>yb rfl rfl rfl) x.length 0 (zp y.length 0) ae (by simp) (fun d c=>by grind) (by grind [MG,ze]);rw[qf,List.replicate_append_replicate,show y.length+(x.length+y.length-y.length)=x.length+y.length by omega]at this;omega
end T114
theorem gF{r x d:Int}(a:0<d/\d<1000000000)(hr:0<=r/\r<d)(c:0<=x/\x<1000000000):
  zf .i64 (zf .i64 (r*1000000000)+x)=r*1000000000+x/\zf .i64 (yw (r*1000000000+x) d)=(r*1000000000+x)/d/\qj (r*1000000000+x) d=(r*1000000000+x) % d/\
  (0<=(r*1000000000+x)/d/\(r*1000000000+x)/d<1000000000)/\(0<=(r*1000000000+x) % d/\(r*1000000000+x) % d<d)/\(r*1000000000+x)/d*d+(r*1000000000+x) % d=r*1000000000+x:=by
 have h:=Int.mul_ediv_add_emod (r*1000000000+x) d;rw[z6]at h;have b:0<=(r*1000000000+x)/d:=Int.ediv_nonneg ae ae;have q1:(r*1000000000+x)/d<1000000000:=Int.ediv_lt_of_lt_mul a.1 ae;refine⟨?_,?_,ah,⟨b,q1⟩,⟨qi _ ae,yx _ a.1⟩,h⟩
 ·grind [wr]
 grind [wr]
namespace T146
theorem Ar[Srt](a:List Int)(d:Int)(e:Az zd a)(f:0<d/\d<1000000000)(p:a.length<=20000)(l:∀q r ob,Az zd q->(0<=r/\r<d)->Ax a=Ax q*d+r->Q (.tup [.dat li<|AB q,.dat i64 r]) ob):∀(i:Nat) (q:List Int) (r:Int),i+q.length=a.length->Az zd q->(0<=r/\r<d)->ze zd (a.drop i)=ze zd q*d+r->
  Ends iT (L1 a d a.length r ((i:Int)-1)<|zp i 0++q) Q
 |0,q,r,j,b,hr,k=>by
  refine zj (Al ..) (zn (by simp) ?_);grind [zc,zh,Ax]
 |i+1,q,r,j,b,hr,k=>by
  have m:(((i+1:Nat):Int)-1)=(i:Int):=ae
  have t:=G5 e i;obtain⟨u,o,g,s,h,v⟩:=gF f hr t;have n:a.drop i=a.getD i 0::a.drop (i+1):=Co ae;have es:∀x,(zp (i+1) (0:Int)++q).set i x=zp i 0++(x::q):=by
   grind [List.replicate_succ',Dn]
  rw[m];refine zj (Al ..) (zc (by simp) ?_);rw[zg,es,wr ((i:Int)-1) ae ae,u,o,g];refine zc ah (zc ah<|zc ah (zc ah<|zc ah ?_));refine Ar a d e f p l i _ _ ah (fun x c=>?_) h ?_
  ·rcases y7.1 c with rfl|c
   ·exact s
   ·exact b x c
  ·rw[n];show a.getD i 0+(1000000000:Int)*ze zd (a.drop<|i+1)=((r*1000000000+a.getD i 0)/d+(1000000000:Int)*ze zd q)*d+(r*1000000000+a.getD i 0) % d;grind
theorem ok[Srt]:Af A5 146 Yo:=by
 refine BG TF<|fun(i:List Int×Int) c=>?_;obtain⟨a,d⟩:=i;have c:(Kp a&&decide (0<d)&&decide (d<1000000000))=true:=c;rw[zl,zl,w5,w5]at c;obtain⟨⟨ha,d0⟩,d1⟩:=c;obtain⟨hl,hda⟩:=PI ha;refine zz (Ak a d) ?_;conv=>zeta
 rw[zg,wr ((a.length:Int)-1) ae ae];refine zc (by simp;omega) ?_;have:=Ar (Q:=Ad Yo (a,d)) a d hda ⟨d0,d1⟩ hl (fun q r ob g hr f=>?_) a.length [] 0 (by simp) (fun x e=>by cases e) ae (by grind [ze])
 ·grind
 ·refine yb rfl rfl ?_;show(AB q,r)=(B7<|Ax a/d,Ax a % d);obtain⟨u1,u2⟩:=(Int.ediv_emod_unique (a:=Ax a) (b:=d) (r:=r) (q:=Ax q) d0).2 ah;grind [F5]
end T146
theorem zN[Srt]:CL MI:=
 Aa T112.ok (Aa T147.ok<|Aa T146.ok<|Aa T114.ok AI)
theorem UM{t x y w:Int}(c:0<=t/\t<1000000000)(d:0<=x/\x<1000000000)(g:0<=y/\y<1000000000)(i:0<=w/\w<=1000000000):
  zf .i64 (zf .i64 (t*x)+w)=t*x+w/\qj (t*x+w) 1000000000=(t*x+w) % 1000000000/\zf .i64 (yw (t*x+w) 1000000000)=(t*x+w)/1000000000/\
  zf .i64 ((t*x+w)/1000000000+1)=(t*x+w)/1000000000+1/\zf .i64 (y-(t*x+w) % 1000000000)=y-(t*x+w) % 1000000000/\(0<=(t*x+w)/1000000000/\(t*x+w)/1000000000<1000000000)/\(0<=(t*x+w) % 1000000000/\(t*x+w) % 1000000000<1000000000):=by
 have h0:0<=t*x:=z8 c.1 d.1;have h:t*x<=999999999*999999999:=by
  have a:=zi (show x<=999999999 by omega) c.1;have b:=zq (show t<=999999999 by omega) (show(0:Int)<=999999999 by omega);omega
 generalize t*x=P at*;have e:zf .i64 P=P:=wr _ ae ae;have f:yw (P+w) 1000000000=(P+w)/1000000000:=zt ae;refine⟨?_,yj ae,?_,wr _ ae ae,wr _ ae ae,by omega,by omega⟩
 ·rw[e];exact wr _ ae ae
 ·rw[f];exact wr _ ae ae
theorem fG(w r:List Int)(i:Nat)(h:i<w.length):(w++r).getD i 0=w.getD i 0:=by
 rw[yk,yk,List.getElem?_append_left h]
namespace T109
theorem gW{b w z:List Int}{h:Int}{j i:Nat}(a:b.length=j)(c:i<w.length):(b++(w++h::z)).getD (i+j) 0=w.getD i 0:=by
 rw[Hm _ _ _ _ a,fG _ _ _ c]
theorem sW{a w z:List Int}{h:Int}{j i:Nat}(x:Int)(b:a.length=j)(c:i<w.length):(a++(w++h::z)).set (i+j) x=a++(w.set i x++h::z):=by
 rw[TH _ _ _ _ _ b,List.set_append_left _ _ c]
theorem gH{b w z:List Int}{h:Int}{j n:Nat}(a:b.length=j)(c:w.length=n):(b++(w++h::z)).getD (n+j) 0=h:=by
 rw[Hm _ _ _ _ a];exact E0 _ _ _ _ c
theorem sH{a w z:List Int}{h:Int}{j n:Nat}(x:Int)(b:a.length=j)(c:w.length=n):(a++(w++h::z)).set (n+j) x=a++(w++x::z):=by
 rw[TH _ _ _ _ _ b];congr 1;exact Dn _ _ _ _ c
theorem On(w z:List Int)(h:Int)(a:ze zd z=0):ze zd (w++h::z)=ze zd w+(zd:Int)^w.length*h:=by
 rw[C3];show _+_*(h+(zd:Int)*ze zd z)=_;rw[a,qp,qq]
theorem CF[Srt](p a e:Nat)(B J v s z:List Int)(n j:Nat)(t h' X:Int)(S:v.length=n)(D:n<=9000)(h:s.length=j)(U:j<=9000)(E:n+j<a)(C:j<e)(y:j<B.length)(M:Az zd v)(K:ze zd z=0)(A:Az zd z)(R: -2000000000<=h'/\h'<=2000000000)
  (P:0<=X/\X<(zd:Int)^n) (x:a=j+n+1+z.length)
  (m:∀r:List Int,r.length=n+1+z.length->Az zd r->ze zd r=X->Ends MI (L2 p v n a e (zf .i64<|(j:Int)-1) (B.set j t) (s++r) J) Q):
  ∀(k i:Nat) (w:List Int) (c:Int),i+k=n->w.length=n->Az zd w->(0<=c/\c<=1)->ze zd w+(zd:Int)^n*h'=X-ze zd v+ze zd (v.take i)-(zd:Int)^i*c->
   Ends MI (L5 p v n a e j t c i B (s++(w++h'::z)) J) Q
 |0,i,w,c,I,u,q,O,L=>by
  have I:i=n:=ae
  subst I;have H:zf .i64 ((j:Int)+(i:Int))=((i+j:Nat):Int):=by rw[wr _ ae ae];omega
  have F:v.take i=v:=zm ae;rw[F]at L;have a1:=AE (b:=zd) af q;have a2:=Bp (b:=zd) af q;rw[u]at a2;have hp:=Be (b:=zd) af i;have G:ze zd w+(zd:Int)^i*(h'+c)=X:=by rw[zu];omega
  have l:h'+c=0:=by
   rcases Int.lt_trichotomy (h'+c) 0 with g|g|g
   ·have:=zi (show h'+c<= -1 by omega)<|z7 hp;rw[Int.mul_neg,yy]at this;omega
   ·exact g
   ·have:=zi (show 1<=h'+c by omega)<|z7 hp;rw[yy]at this;omega
  have f:i+j<(s++(w++h'::z)).length:=by simp;omega
  refine zj (Fi ..) (zn (by simp) ?_);rw[H,zg,zg,gH h u,sH _ h u,wr (h'+c) ae ae,l];have t1:(decide ((0:Int)<=((i+j:Nat):Int))&&decide (((i+j:Nat):Int)<(a:Int)))=true:=by simp;omega
  refine zc t1 (zc (w4 f)<|zc t1<|zc (w4 f)<|zc (by simp;omega)<|zc (w4 y)<|m _ (by simp;omega) (GM q<|fun d o=>?_) ?_)
  ·rcases y7.1 o with rfl|o
   ·decide
   ·exact A d o
  ·rw[On _ _ _ K,u, <-G,l]
 |k+1,i,w,c,I,u,q,O,L=>by
  have Z:=G5 M i;have Y:=G5 q i;have H:zf .i64 ((i:Int)+(j:Int))=((i+j:Nat):Int):=by rw[wr _ ae ae];omega
  have N:=wn (i:=i) ae;have T:zf .i64 (zf .i64 (w.getD i 0+v.getD i 0)+c)=w.getD i 0+v.getD i 0+c:=by
   rw[wr (w.getD i 0+v.getD i 0) ae ae];exact wr _ ae ae
  have V:qj (w.getD i 0+v.getD i 0+c) 1000000000=(w.getD i 0+v.getD i 0+c) % 1000000000:=yj ae;have G:zf .i64 (yw (w.getD i 0+v.getD i 0+c) 1000000000)=(w.getD i 0+v.getD i 0+c)/1000000000:=by
   rw[zt ae];exact wr _ ae ae
  have f:i+j<(s++(w++h'::z)).length:=by simp;omega
  refine zj (Fi ..) (zc (by simp;omega) ?_);rw[H,N,zg,zg,gW h ae,sW _ h ae,T,V,G];have t1:(decide ((0:Int)<=((i+j:Nat):Int))&&decide (((i+j:Nat):Int)<(a:Int)))=true:=by simp;omega
  refine zc t1 (zc (w4 f)<|zc (by simp;omega)<|zc rfl (zc t1<|zc (w4 f)<|zc rfl ?_));refine CF p a e B J v s z n j t h' X S D h U E C y M K A R P x m k (i+1) _ _ ae (by simp[u]) (Hq q i<|by show 0<=_/\_<(1000000000:Int);omega) ae ?_;rw[H6 _ _ _ _ ae,Mg,AH];have W:(zd:Int)^i*((w.getD i 0+v.getD i 0+c) % 1000000000-w.getD i 0)=(zd:Int)^i*v.getD i 0+(zd:Int)^i*c-(zd:Int)^i*(1000000000*((w.getD i 0+v.getD i 0+c)/1000000000)):=by
   rw[<-zu, <-yz];congr 1;omega
  omega
theorem B2[Srt](g a b:Nat)(p y v l z:List Int)(n j:Nat)(t h W:Int)(U:v.length=n)(B:n<=9000)(e:l.length=j)(Y:j<=9000)(C:n+j<a)(A:j<b)(s:j<p.length)(N:Az zd v)(S:0<=h/\h<1000000000)(r:a=j+n+1+z.length)(J:0<=t/\t<1000000000)
  (h0:∀(w:List Int) (h':Int),w.length=n->Az zd w->0<=h'->ze zd w+(zd:Int)^n*h'=W-t*ze zd v->Ends MI (L2 g v n a b (zf .i64<|(j:Int)-1) (p.set j t) (l++(w++h'::z)) y) Q)
  (I:∀(w:List Int) (h':Int),w.length=n->Az zd w->h'<0-> -2000000000<=h'->ze zd w+(zd:Int)^n*h'=W-t*ze zd v->Ends MI (L5 g v n a b j (zf .i64<|t-1) 0 0 p (l++(w++h'::z)) y) Q):
  ∀(k i:Nat) (w:List Int) (c:Int),i+k=n->w.length=n->Az zd w->(0<=c/\c<=1000000000)->ze zd w+(zd:Int)^n*h=W-t*ze zd (v.take i)+(zd:Int)^i*c->
   Ends MI (L4 g v n a b j t c i p (l++(w++h::z)) y) Q
 |0,i,w,c,H,m,q,K,L=>by
  have H:i=n:=ae
  subst H;have F:zf .i64 ((j:Int)+(i:Int))=((i+j:Nat):Int):=by rw[wr _ ae ae];omega
  have D:v.take i=v:=zm ae;rw[D]at L;have f:i+j<(l++(w++h::z)).length:=by simp;omega
  have u:i+j<(l++(w++(h-c)::z)).length:=by simp;omega
  have M:ze zd w+(zd:Int)^i*(h-c)=W-t*ze zd v:=by rw[yz];omega
  refine zj (BU ..) (zn (by simp) ?_);rw[F,zg,zg,gH e m,wr (h-c) ae ae,sH _ e m,gH e m];have t1:(decide ((0:Int)<=((i+j:Nat):Int))&&decide (((i+j:Nat):Int)<(a:Int)))=true:=by simp;omega
  refine zc t1<|zc (w4 f)<|zc t1<|zc (w4 f)<|zc t1<|zc (w4 u)<|zk (fun d=>?_)<|fun d=>?_
  ·have d:=w6 d;exact I w (h-c) m q d ae M
  ·have d:=w7 d;exact zc (by simp;omega) (zc (w4 s)<|h0 w (h-c) m q ae M)
 |k+1,i,w,c,H,m,q,K,L=>by
  have gx:=G5 N i;have Z:=G5 q i;obtain⟨m1,T,R,X,m5,m6,m7⟩:=UM J gx Z K;have F:zf .i64 ((i:Int)+(j:Int))=((i+j:Nat):Int):=by rw[wr _ ae ae];omega
  have O:=wn (i:=i) ae;have f:i+j<(l++(w++h::z)).length:=by simp;omega
  have t1:(decide ((0:Int)<=((i+j:Nat):Int))&&decide (((i+j:Nat):Int)<(a:Int)))=true:=by simp;omega
  have go:∀(x o:Int),(0<=x/\x<1000000000)->(0<=o/\o<=1000000000)->c+(x-w.getD i 0)=1000000000*o-t*v.getD i 0->Ends MI (L4 g v n a b j t o ((i+1:Nat):Int) p (l++(w.set i x++h::z)) y) Q:=by
   intro x o V E G;refine B2 g a b p y v l z n j t h W U B e Y C A s N S r J h0 I k (i+1) _ _ ae (by simp[m]) (Hq q i V) E ?_;rw[H6 _ _ _ _ ae,Mg,AH,zu t,Int.mul_left_comm t];have e6:(zd:Int)^i*c+(zd:Int)^i*(x-w.getD i 0)=(zd:Int)^i*(1000000000*o)-(zd:Int)^i*(t*v.getD i 0):=by
    rw[<-zu, <-yz,G]
   omega
  refine zj (BU ..) (zc (by simp;omega) ?_);rw[F,O,zg,zg,gW e ae,m1,T,R,X,m5,sW _ e ae,sW _ e ae];refine zc (by simp;omega)<|zc t1<|zc (w4 f)<|zc rfl (zc rfl (zk (fun d=>?_)<|fun d=>?_))
  ·have d:=w6 d;rw[wr (w.getD i 0-(t*v.getD i 0+c) % 1000000000+1000000000) ae ae];refine zc t1 (zc (w4 f)<|go _ _ ae ae ?_);generalize t*v.getD i 0=P at*;omega
  ·have d:=w7 d;refine zc t1 (zc (w4 f)<|go _ _ ae ae ?_);generalize t*v.getD i 0=P at*;omega
theorem vT[Srt](i f h:Nat)(B F v y e:List Int)(n j:Nat)(I:v.length=n)(o:n<=9000)(u:y.length=j)(N:j<=9000)(hr:n+1<=e.length)(K:f=j+e.length)(m:j<h)(t:j<B.length)(E:Az zd v)(C:Az zd e)(D:ze zd (e.drop<|n+1)=0)
  (l:∀(q:Int) (r:List Int),r.length=e.length->Az zd r->(0<=q/\q<1000000000)->ze zd r<ze zd v->ze zd r=ze zd e-q*ze zd v->Ends MI (L2 i v n f h (zf .i64<|(j:Int)-1) (B.set j q) (y++r) F) Q)
  (q:Int) (M:0<=q/\q<1000000000) (O:ze zd e<(q+1)*ze zd v) (W:q*ze zd v<ze zd e+ze zd v):
  Ends MI (L4 i v n f h j q 0 0 B (y++e) F) Q:=by
 have k:e=e.take n++e.getD n 0::e.drop (n+1):=by
  rw[<-Co ae];exact(yd n e).symm
 have gh:=G5 C n;have G:=AR C n;have z:=EH C<|n+1;have A:(e.take n).length=n:=by rw[zr];omega
 have U:(e.drop<|n+1).length=e.length-(n+1):=zo ..;have hW:ze zd e=ze zd (e.take n)+(zd:Int)^n*e.getD n 0:=by
  conv=>lhs;rw[k]
  rw[On _ _ _ D,A]
 have p:=Bp (b:=zd) af E;rw[I]at p;have S:=AE (b:=zd) af E;have P:=AE (b:=zd) af C;have hp:=Be (b:=zd) af n;rw[Int.add_mul,yq]at O;rw[k];refine B2 i f h B F v y (e.drop<|n+1) n j q (e.getD n 0) (ze zd e) I o u N ae m t E gh ae M (fun w h' a b c d=>?_) (fun w h' a b c X d=>?_) n 0 (e.take n) 0 ae A G af (by rw[<-hW];simp[ze])
 ·have L:=AE (b:=zd) af b;have H:h'=0:=by
   rcases yv 0 h' with g|g
   ·have:=zi (show 1<=h' by omega)<|z7 hp;omega
   ·omega
  refine l q _ (by simp;omega) (GM b<|fun x J=>?_) M ?_ ?_
  ·rcases y7.1 J with rfl|J
   ·rw[H];decide
   ·exact z x J
  ·rw[On _ _ _ D,a,d];omega
  ·rw[On _ _ _ D,a,d]
 ·have L:=Bp (b:=zd) af b;rw[a]at L;have s:ze zd e-q*ze zd v<0:=by
   have:=zi (show h'<= -1 by omega)<|z7 hp;rw[Int.mul_neg,yy]at this;omega
  have R:1<=q:=by
   rcases yv 0 q with g|g
   ·exact g
   ·have:q=0:=ae
    subst this;rw[qt]at s;omega
  rw[wr (q-1) ae ae];refine CF i f h B F v y (e.drop<|n+1) n j (q-1) h' (ze zd e-q*ze zd v+ze zd v) I o u N ae m t E D z ae ae ae (fun r V b' T=>?_) n 0 w 0 ae a b af (by rw[d];simp[ze]<;>omega);refine l (q-1) r ae b' ae ae ?_;rw[T,Int.sub_mul,yq];omega
theorem C9[Srt](l e i:Nat)(u A v m h:List Int)(a2 a1 a0:List Int)(k j:Nat)(T:v.length=k+2)(F:k+2<=9000)(y:m.length=j)(hj:j<=9000)(hr:k+3<=h.length)(n:e=j+h.length)(E:j<i)(C:j<u.length)(z:Az zd v)(w:Az zd h)(M:ze zd (h.drop<|k+3)=0)(H:1<=v.getD (k+1) 0)
  (D:h.getD (k+2) 0<=v.getD (k+1) 0) (O:ze zd h<1000000000*ze zd v)
  (t:∀(q:Int) (r:List Int),r.length=h.length->Az zd r->(0<=q/\q<1000000000)->ze zd r<ze zd v->ze zd r=ze zd h-q*ze zd v->Ends MI (L2 l v ((k+2:Nat):Int) e i (zf .i64<|(j:Int)-1) (u.set j q) (m++r) A) Q):
  ∀(f:Nat) (q r:Int),0<=q->q<f->q<=2000000000000000000->(0<=r/\r<1000000000)->q*v.getD (k+1) 0+r=h.getD (k+2) 0*1000000000+h.getD (k+1) 0->ze zd h<(q+1)*ze zd v->
   Ends MI (L3 l v ((k+2:Nat):Int) e i j a2 a1 a0 e v j ((k+2:Nat):Int) q r u (m++h) A) Q
 |0,q,r,h0,hf,_,_,_,_=>by omega
 |f+1,q,r,h0,hf,hmax,hr1,Z,N=>by
  have x:=G5 z k;have gv1:=G5 z<|k+1;have gu2:=G5 w k;have gu1:=G5 w<|k+1;have Y:=Be (b:=zd) af k;have hW:=AaK zd h k ae M;have W:=Aa0 zd v k T;have S:=AE (b:=zd) af<|AR w k;have s:=Bp (b:=zd) af<|AR w k;have I:=AE (b:=zd) af<|AR z k;have p:=Bp (b:=zd) af<|AR z k;have V:=AE (b:=zd) af z;rw[zr,yu ae]at s p;have exit:∀q R:Int,0<=q->q<1000000000->q*v.getD (k+1) 0+R=h.getD (k+2) 0*1000000000+h.getD (k+1) 0->ze zd h<(q+1)*ze zd v->q*v.getD k 0<=R*1000000000+h.getD k 0->Ends MI (L4 l v ((k+2:Nat):Int) e i j q 0 0 u (m++h) A) Q:=by
   intro q R X q1 L U K;refine vT l e i u A v m h (k+2) j T F y hj hr n E C z w M t q ⟨X,q1⟩ U ?_;rw[hW,W];exact Xc Y ⟨I,p⟩ S ⟨X,q1⟩ H x.1 L K
  have e1:zf .i64 (((k+2:Nat):Int)-2)=(k:Int):=by rw[wr _ ae ae];omega
  have e2:zf .i64 (((k+2:Nat):Int)-1)=((k+1:Nat):Int):=by rw[wr _ ae ae];omega
  have e3:zf .i64 (zf .i64 ((j:Int)+((k+2:Nat):Int))-2)=((k+j:Nat):Int):=by
   rw[wr ((j:Int)+((k+2:Nat):Int)) ae ae,wr _ ae ae];omega
  have g3:(m++h).getD (k+j) 0=h.getD k 0:=Hm _ _ _ _ y;have b1:(decide ((0:Int)<=((k+1:Nat):Int))&&decide (((k+1:Nat):Int)<(v.length:Int)))=true:=by simp;omega
  have G:ze zd h<q*ze zd v->Ends MI (.ite (decide (zf .i64 (r+v.getD (k+1) 0)>=(1000000000:Int))) (L4 l v ((k+2:Nat):Int) e i j (zf .i64<|q-1) 0 0 u (m++h) A)<|L3 l v ((k+2:Nat):Int) e i j a2 a1 a0 e v j ((k+2:Nat):Int) (zf .i64<|q-1) (zf .i64<|r+v.getD (k+1) 0) u (m++h) A) Q:=by
   intro K;have hW0:=AE (b:=zd) af w;have hq1:1<=q:=by
    rcases yv 0 q with g|g
    ·exact g
    ·have:q=0:=ae
     subst this;rw[qt]at K;omega
   have J:(q-1)*v.getD (k+1) 0+(r+v.getD (k+1) 0)=h.getD (k+2) 0*1000000000+h.getD (k+1) 0:=by rw[Int.sub_mul,yq];omega
   have o:ze zd h<(q-1+1)*ze zd v:=by rw[show q-1+1=q by omega];exact K
   rw[wr (q-1) ae ae,wr (r+v.getD (k+1) 0) ae ae];refine zk (fun c=>?_)<|fun c=>?_
   ·have c:=w6 c;have P:q-1<1000000000:=by
     rcases yv (q-1) 1000000000 with g|g
     ·exact g
     ·have a:=zq g (show 0<=v.getD (k+1) 0 by omega);have b:=zq D (show(0:Int)<=1000000000 by omega);omega
    refine exit (q-1) _ ae P J o ?_;have a:=zi (show v.getD k 0<=999999999 by omega) (show 0<=q-1 by omega);omega
   ·have c:=w7 c;exact C9 l e i u A v m h a2 a1 a0 k j T F y hj hr n E C z w M H D O t f (q-1) _ ae ae ae ae J o
  refine zj (BT ..) ?_;conv=>zeta
  rw[e1,e2,e3,zg,zg,zg,g3];refine zk (fun c=>zc b1<|G ?_) (fun c=>zc (by simp;omega) (zc (by simp;omega)<|zc (by simp;omega)<|zk (fun d=>zc b1<|G ?_)<|fun d=>?_))
  ·have c:=w6 c;have:=zq c V;omega
  ·have c:=w7 c;have d:=w6 d;have a:=zi (show v.getD k 0<=999999999 by omega) h0;have b:=z8 h0 x.1;rw[wr (q*v.getD k 0) ae ae,wr (r*1000000000) ae ae,wr _ ae ae]at d;have:=VC (B:=zd) (u0:=h.getD (k+2) 0) (u1:=h.getD (k+1) 0) (u2:=h.getD k 0) Y I s h0 (v1:=v.getD (k+1) 0) (v2:=v.getD k 0) (r:=r) Z d;rw[<-hW, <-W]at this;exact this
  ·have c:=w7 c;have d:=w7 d;have a:=zi (show v.getD k 0<=999999999 by omega) h0;have b:=z8 h0 x.1;rw[wr (q*v.getD k 0) ae ae,wr (r*1000000000) ae ae,wr _ ae ae]at d;exact exit q r h0 ae Z N ae
end T109
theorem Gz{w:List Int}(c:Az zd w)(a:Sp.nz w){k:Nat}(b:w.length=k+1):0<w.getD k 0/\w.getD k 0<1000000000:=by
 have g:=G5 c k;refine⟨?_,g.2⟩;have e:w.getLast?=some (w.getD k 0):=by
  rw[List.getLast?_eq_getElem?,b,yo,yk,List.getElem?_eq_getElem ae];rfl
 unfold Sp.nz at a;rw[e]at a;have:w.getD k 0≠0:=fun h=>a (by rw[h])
 omega
theorem Eu(d:Int):ze zd [d]=d:=by simp[ze]
namespace T109
theorem A1[Srt](v:List Int)(k h:Nat)(f:Int)(V:0<f/\f<1000000000)(D:v.length=k+2)(S:h<=9000)(X:k+2<=h)(y:Az zd v)(I:1<=v.getD (k+1) 0)(M:Int)
  (hq:∀(u c:List Int) ob,Az zd u->Az zd c->ze zd u<ze zd v->M=ze zd u+ze zd v*ze zd c->Q (.tup [.dat li<|AB c,.dat li<|B7<|ze zd u/f]) ob):
  ∀(t:Nat) (u c:List Int),t+c.length=h-(k+2)+1->u.length=h+1->Az zd u->Az zd c->ze zd (u.drop t)<ze zd v->M=ze zd u+ze zd v*((zd:Int)^t*ze zd c)->
   Ends MI (L2 1 v ((k+2:Nat):Int) (h+1) (h-(k+2)+1) ((t:Int)-1) (zp t 0++c) u [f]) Q
 |0,u,c,hl,P,w,C,p,he=>by
  have p:ze zd u<ze zd v:=p;have n:=Bp (b:=zd) af y;rw[D]at n;have G:ze zd (u.drop<|k+2)=0:=JW (b:=zd) af w ae ae;have F:ze zd (u.take<|k+2)=ze zd u:=by
   rw[Ck zd u (k+2) ae,G,qp,qq]
  have ht:(zp 0 0++c).take (h-(k+2)+1)=c:=by
   rw[List.replicate_zero,qh];exact zm ae
  have Y:=Ia<|AR w<|k+2;have hlr:(AB<|u.take<|k+2).length<=9000:=by
   rw[F5<|AR w<|k+2];refine Nat.le_trans (OJ (k:=k+2) (AE af<|AR w<|k+2) ?_) ae;show ze zd (u.take<|k+2)<_;rw[F];omega
  have e1:Ax (AB<|u.take<|k+2)=ze zd u:=by
   show ze zd (AB _)=_;rw[J2,F]
  refine zj (AL ..) (zn (by simp) ?_);rw[zg,ht,e1];refine zc (by simp;omega) (zc rfl (zc rfl (zc (by simp;omega)<|zc (Ac (Ac (LR ae Y)<|w4 V.1)<|w4 V.2)<|zc (by simp;omega)<|zh<|hq u c _ w C p<|by rw[he,qu,yq])))
 |j+1,u,c,hl,P,w,C,p,he=>by
  obtain⟨m,r,rfl,s⟩:∃m r:List Int,u=m++r/\m.length=j:=⟨u.take j,u.drop j,(yd j u).symm,by rw[zr];omega⟩;have H:Az zd m:=fun d g=>w d<|List.mem_append.2<|.inl g
  have e:Az zd r:=fun d g=>w d<|List.mem_append.2<|.inr g
  have hrl:r.length=h+1-j:=by rw[zx]at P;omega
  have o:∀z:List Int,(m++z).drop j=z:=fun z=>by rw[<-s];exact List.drop_left
  have U:r=r.getD 0 0::r.drop 1:=by
   have:=Co (l:=r) (i:=0) ae;rw[List.drop_zero]at this;exact this
  have hd1:(m++r).drop (j+1)=r.drop 1:=by rw[Nat.add_comm j 1,Nat.add_comm 1 j, <-List.drop_drop,o]
  rw[hd1]at p;have g0:=G5 e 0;have hvr:ze zd r=r.getD 0 0+1000000000*ze zd (r.drop 1):=by
   conv=>lhs;rw[U]
   rfl
  have n:=Bp (b:=zd) af y;rw[D]at n;have Z:ze zd r<1000000000*ze zd v:=by rw[hvr];omega
  have G:ze zd (r.drop<|k+3)=0:=by
   refine JW (b:=zd) af e ae ?_;have ep:(zd:Int)^(k+3)=(zd:Int)^(k+2)*1000000000:=yp ..;rw[ep];omega
  have gu0:=G5 e<|k+2;have gu1:=G5 e<|k+1;have T:=G5 e k;have gv1:=G5 y<|k+1;have O:=G5 y k;have hP:=Be (b:=zd) af k;have hW:=AaK zd r k ae G;have hV:=Aa0 zd v k D;have x:=Bp (b:=zd) af<|AR e k;have hv':=AE (b:=zd) af<|AR y k;rw[zr,yu ae]at x;have R:r.getD (k+2) 0<=v.getD (k+1) 0:=by
   have a1:=Ck zd (r.drop 1) (k+1) (by rw[zo];omega);have a2:(r.drop 1).drop (k+1)=r.getD (k+2) 0::r.drop (k+3):=by
    rw[List.drop_drop,show 1+(k+1)=k+2 by omega];exact Co ae
   have a3:ze zd (r.getD (k+2) 0::r.drop (k+3))=r.getD (k+2) 0:=by
    show r.getD (k+2) 0+(zd:Int)*ze zd (r.drop<|k+3)=_;rw[G];omega
   rw[a2,a3]at a1;have b1:ze zd v=ze zd (v.take<|k+1)+(zd:Int)^(k+1)*v.getD (k+1) 0:=by
    rw[<-AH,zm ae]
   have L:=Bp (b:=zd) af<|AR y<|k+1;rw[zr,yu ae]at L;have c1:=AE (b:=zd) af<|AR (EH e 1)<|k+1;have c2:(zd:Int)^(k+1)*r.getD (k+2) 0<(zd:Int)^(k+1)*(v.getD (k+1) 0+1):=by
    rw[zu,yy];omega
   have:=ym c2 (z7<|Be af<|k+1);omega
  have J:∀(q:Int) (A:List Int),A.length=r.length->Az zd A->(0<=q/\q<1000000000)->ze zd A<ze zd v->ze zd A=ze zd r-q*ze zd v->Ends MI (L2 1 v ((k+2:Nat):Int) (h+1) (h-(k+2)+1) (zf .i64<|(j:Int)-1) ((zp (j+1) 0++c).set j q) (m++A) [f]) Q:=by
   intro q A h1 h2 h3 h4 h5;have es:(zp (j+1) (0:Int)++c).set j q=zp j 0++(q::c):=by
    rw[List.replicate_succ',List.append_assoc];exact Dn _ _ _ _ (by simp)
   rw[es,wr ((j:Int)-1) ae ae];refine A1 v k h f V D S X y I M hq j (m++A) (q::c) (by simp;omega) (by simp;omega) (GM H h2) (fun d g=>?_) (by rw[o];exact h4) ?_
   ·rcases y7.1 g with rfl|g
    ·exact h3
    ·exact C d g
   ·rw[he,C3,C3,s,h5,Mg];show ze zd m+(zd:Int)^j*ze zd r+ze zd v*((zd:Int)^j*(1000000000*ze zd c))=ze zd m+(zd:Int)^j*(ze zd r-q*ze zd v)+ze zd v*((zd:Int)^j*(q+1000000000*ze zd c));have x1:ze zd v*((zd:Int)^j*q)=(zd:Int)^j*(q*ze zd v):=by
     rw[Int.mul_left_comm,z6 (ze zd v) q]
    rw[yz,zu ((zd:Int)^j) q,zu<|ze zd v,x1];omega
  have e0:(((j+1:Nat):Int)-1)=(j:Int):=ae
  have e1:zf .i64 ((j:Int)+((k+2:Nat):Int))=((k+2+j:Nat):Int):=by rw[wr _ ae ae];omega
  have e2:zf .i64 (((k+2+j:Nat):Int)-1)=((k+1+j:Nat):Int):=by rw[wr _ ae ae];omega
  have e3:zf .i64 (((k+2:Nat):Int)-1)=((k+1:Nat):Int):=by rw[wr _ ae ae];omega
  have g1:(m++r).getD (k+2+j) 0=r.getD (k+2) 0:=Hm _ _ _ _ s;have g2:(m++r).getD (k+1+j) 0=r.getD (k+1) 0:=Hm _ _ _ _ s;have N:(m++r).length=h+1:=P;have K:zf .i64 (zf .i64 (r.getD (k+2) 0*1000000000)+r.getD (k+1) 0)=r.getD (k+2) 0*1000000000+r.getD (k+1) 0:=by
   rw[wr (r.getD (k+2) 0*1000000000) ae ae];exact wr _ ae ae
  have a:0<=r.getD (k+2) 0*1000000000+r.getD (k+1) 0:=ae
  have E:0<=(r.getD (k+2) 0*1000000000+r.getD (k+1) 0)/v.getD (k+1) 0:=Int.ediv_nonneg a ae;have hqs:(r.getD (k+2) 0*1000000000+r.getD (k+1) 0)/v.getD (k+1) 0<=r.getD (k+2) 0*1000000000+r.getD (k+1) 0:=Int.ediv_le_self _ a;have B:=Int.mul_ediv_add_emod (r.getD (k+2) 0*1000000000+r.getD (k+1) 0)<|v.getD (k+1) 0;have hm0:=qi (r.getD (k+2) 0*1000000000+r.getD (k+1) 0) (show v.getD (k+1) 0≠0 by omega);have W:=yx (r.getD (k+2) 0*1000000000+r.getD (k+1) 0) (show 0<v.getD (k+1) 0 by omega);rw[z6]at B;have et:zf .i64 (yw (r.getD (k+2) 0*1000000000+r.getD (k+1) 0)<|v.getD (k+1) 0)=(r.getD (k+2) 0*1000000000+r.getD (k+1) 0)/v.getD (k+1) 0:=by
   rw[zt a];exact wr _ ae ae
  have em:qj (r.getD (k+2) 0*1000000000+r.getD (k+1) 0) (v.getD (k+1) 0)=(r.getD (k+2) 0*1000000000+r.getD (k+1) 0) % v.getD (k+1) 0:=yj a;have L:(decide ((0:Int)<=((k+1:Nat):Int))&&decide (((k+1:Nat):Int)<((k+2:Nat):Int)))=true:=by simp;omega
  have bn:decide (v.getD (k+1) 0≠0)=true:=w4 ae;rw[e0];refine zj (AL ..) (zc (by simp) ?_);rw[D,e1,e2,e3,zg,zg,zg,g1,g2,K,et,em,N];refine zc (by simp;omega) (zc (w4 ae) (zc (by simp;omega)<|zc (w4 ae)<|zc L<|zc bn<|zc L<|zc bn ?_));refine C9 1 (h+1) (h-(k+2)+1) _ [f] v m r _ _ _ k j D ae s ae ae ae ae (by simp;omega) y e G I R Z J (((r.getD (k+2) 0*1000000000+r.getD (k+1) 0)/v.getD (k+1) 0).toNat+1) _ _ E ae ae ⟨hm0,by omega⟩ B ?_;rw[hW,hV];exact NC hP af E hv' O.1 x T.2 B W
theorem Ar[Srt](a v:List Int)(n b:Nat)(f:Int)(j:a.length=b)(c:b<=9000)(i:n<=b)(k:∀u:List Int,u.length=b+1->Az zd u->ze zd u=ze zd a*f->Ends MI (L2 1 v n (b+1) (b-n+1) (((b-n+1:Nat):Int)-1) (zp (b-n+1) 0) u [f]) Q):
  ∀(m:Nat) (u:List Int),u.length+m=b+1->Az zd u->ze zd u=ze zd a*f->Ends MI (L1 a 1 v n u.length u [f]) Q
 |0,u,l,e,g=>by
  have h:zf .i64 ((a.length:Int)+1)=((b+1:Nat):Int):=by rw[wr _ ae ae];omega
  have o:zf .i64 ((u.length:Int)-(n:Int))=((b-n+1:Nat):Int):=by rw[wr _ ae ae];omega
  have p:zf .i64 (((b-n+1:Nat):Int)-1)=((b-n+1:Nat):Int)-1:=wr _ ae ae;refine zj (Al ..) ?_;conv=>zeta
  rw[h,o,p,zg];refine zn (by simp;omega) (zc (by simp;omega) ?_);have d:u.length=b+1:=ae
  rw[d];exact k u d e g
 |m+1,u,l,e,g=>by
  have h:zf .i64 ((a.length:Int)+1)=((b+1:Nat):Int):=by rw[wr _ ae ae];omega
  refine zj (Al ..) ?_;conv=>zeta
  rw[h];refine zc (by simp;omega) (zc (by simp;omega) ?_);have:=Ar a v n b f j c i k m (u++[0]) (by simp;omega) (Fy e af) (by rw[Cm,qp,qq];exact g);rw[zx]at this;exact this
set_option maxHeartbeats 1000000 in
theorem ok[Srt]:Af A5 109 SH:=by
 refine BG zN<|fun(i:List Int×List Int) E=>?_;obtain⟨a,b⟩:=i;have E:(A8 a&&A8 b&&decide (a.length<=9000)&&decide (b.length<=9000)&&decide (0<Ax b))=true:=E;rw[zl,zl,zl,zl,w5,w5,w5]at E;obtain⟨⟨⟨⟨na,nb⟩,la9⟩,lb9⟩,j⟩:=E;obtain⟨_,da,za⟩:=Bq na;obtain⟨_,db,zb⟩:=Bq nb;have j:0<ze zd b:=j;have p:=AE (b:=zd) af da;have hg:∀q r ob,q=B7 (Ax a/Ax b)->r=B7 (Ax a % Ax b)->Ad SH (a,b) (PV.tup [PV.dat li q,PV.dat li r]) ob:=fun q r ob R H=>yb rfl rfl (Prod.ext R H)
 have l:b≠[]:=by rintro rfl;simp[ze]at j
 have F:b.length≠0:=fun h=>l<|ya.1 h
 refine zz (Ak a b) (zc (by rw[na,nb];rfl)<|zk (fun c=>?_)<|fun c=>?_)
 ·have c:=w6 c;have v:ze zd a<ze zd b:=by
   unfold Cp at c;have c:(if ze zd a<ze zd b then(-1:Int)else if ze zd a>ze zd b then 1 else 0)<0:=c;split at c
   ·assumption
   ·split at c<;>omega
  refine zh<|yb rfl rfl ?_;show([],a)=(B7<|ze zd a/ze zd b,B7<|ze zd a % ze zd b);rw[Int.ediv_eq_zero_of_lt p v,Int.emod_eq_of_lt p v];exact Prod.ext rfl (Jt af da za)
 ·have c:=w7 c;have hge:ze zd b<=ze zd a:=by
   rcases yv (ze zd a) (ze zd b)with g|g
   ·have:Cp (Ax a) (Ax b)= -1:=wd g;omega
   ·exact g
  have hll:b.length<=a.length:=by
   rcases Nat.lt_or_ge a.length b.length with g|g
   ·have:=EJ (b:=zd) af da db zb g;omega
   ·exact g
  refine zk (fun s=>?_)<|fun s=>?_
  ·have s:b.length=1:=by
    have:(b.length:Int)=1:=by simpa using s
    omega
   obtain⟨d,rfl⟩:=qg.1 s;have G:0<d/\d<1000000000:=Gz (k:=0) db zb rfl;have m0:=qi (ze zd a) (show d≠0 by omega);have m1:=yx (ze zd a) G.1;refine zc rfl (zc (Ac (Ac (LR ae da)<|w4 G.1)<|w4 G.2)<|zc rfl (zh<|hg _ _ _ ?_ ?_))
   ·show B7 (ze zd a/d)=B7 (ze zd a/ze zd [d]);rw[Eu]
   ·show AB [ze zd a % d]=B7 (ze zd a % ze zd [d]);rw[Eu,F5<|fun x o=>by rw[List.mem_singleton]at o;subst o;show 0<=_/\_<(1000000000:Int);omega];show B7 (ze zd [_])=_;rw[Eu]
  ·have s:b.length≠1:=by
    have:(b.length:Int)≠1:=by simpa using s
    omega
   obtain⟨k,C⟩:∃k,b.length=k+2:=⟨b.length-2,by omega⟩;obtain⟨y0,y1⟩:=Gz (k:=k+1) db zb C;have R:zf .i64 (((k+2:Nat):Int)-1)=((k+1:Nat):Int):=by rw[wr _ ae ae];omega
   have H:zf .i64 (b.getD (k+1) 0+1)=b.getD (k+1) 0+1:=wr _ ae ae;have f0:0<1000000000/(b.getD (k+1) 0+1):=by
    have:=Int.le_ediv_of_mul_le (a:=1) (b:=1000000000) (c:=b.getD (k+1) 0+1) ae ae;omega
   have f1:1000000000/(b.getD (k+1) 0+1)<1000000000:=Int.ediv_lt_of_lt_mul ae ae;have f2:1000000000/(b.getD (k+1) 0+1)*(b.getD (k+1) 0+1)<=1000000000:=Int.ediv_mul_le _ ae;have e3:zf .i64 (yw 1000000000<|b.getD (k+1) 0+1)=1000000000/(b.getD (k+1) 0+1):=by
    rw[zt af];exact wr _ ae ae
   rw[C,R,zg,H,e3];generalize 1000000000/(b.getD (k+1) 0+1)=f at*;have K:Az zd [f]:=fun x o=>by rw[List.mem_singleton]at o;subst o;show 0<=_/\_<(1000000000:Int);omega
   have I:Ax [f]=f:=Eu f;rw[I];have O:(zd:Int)^(k+1)<=ze zd b*f:=by
    have a1:=Df (b:=zd) af db zb l;rw[C,show k+2-1=k+1 by omega]at a1;have a2:=zi (show 1<=f by omega)<|z7 j;omega
   have T:ze zd b*f<(zd:Int)^(k+2):=by
    have b1:ze zd b=ze zd (b.take<|k+1)+(zd:Int)^(k+1)*b.getD (k+1) 0:=by
     rw[<-AH,zm ae]
    have b2:=Bp (b:=zd) af<|AR db<|k+1;rw[zr,yu ae]at b2;have hp:=Be (b:=zd) af<|k+1;have b3:ze zd b<(zd:Int)^(k+1)*(b.getD (k+1) 0+1):=by
     rw[zu,yy];omega
    have b4:=yh b3 f0;have b5:=zi f2<|z7 hp;have b6:(zd:Int)^(k+2)=(zd:Int)^(k+1)*1000000000:=yp ..;rw[y8,z6 (b.getD (k+1) 0+1) f]at b4;omega
   have S:0<=ze zd b*f:=z8 (z7 j) ae;have t:0<=ze zd a*f:=z8 p ae;have P:ze zd a*f<(zd:Int)^(a.length+1):=by
    have a1:=Bp (b:=zd) af da;have a2:=yh a1 f0;have a3:=zi (show f<=1000000000 by omega) (z7 (Be (b:=zd) af a.length));have a4:(zd:Int)^(a.length+1)=(zd:Int)^a.length*1000000000:=yp ..;omega
   have vd:=FI (b:=zd) af<|ze zd b*f;have Z:=Z1 (b:=zd) af<|ze zd b*f;have D:ze zd (Sp.dg zd<|ze zd b*f)=ze zd b*f:=C2 af S;have X:=sI (b:=zd) af vd Z (k:=k+1) (by rw[D];exact O) (by rw[D];exact T);have v1:=(Gz vd Z X).1;have ud:=FI (b:=zd) af<|ze zd a*f;have uv:ze zd (Sp.dg zd<|ze zd a*f)=ze zd a*f:=C2 af t;have V:=OJ (k:=a.length+1) t P;have y:Sp.hR [f]=true:=Zm (by simp) K;have bd:decide ((3*(0+(B7<|Ax a*f).length)+2000)*8<=562949953421312)=true:=w4 (by have:(B7<|Ax a*f).length<=a.length+1:=V;omega);refine zc (by simp;omega) (zc (w4 ae)<|zc (by rw[Zm lb9 db,y];rfl)<|zc (by rw[Zm la9 da,y];rfl)<|zc bd ?_);have ez:qv 0 (B7<|Ax a*f).length=(B7<|Ax a*f).length:=qf _;have B:(B7<|Ax b*f).length=k+2:=X;rw[ez,qh,B];refine Ar a (B7<|Ax b*f) (k+2) a.length f rfl la9 ae (fun u J w M=>?_) (a.length+1-(B7<|Ax a*f).length) (B7<|Ax a*f) (by have:(B7<|Ax a*f).length<=a.length+1:=V;omega) ud uv;have z:=Be (b:=zd) af<|a.length-(k+2)+1;have start:ze zd (u.drop<|a.length-(k+2)+1)<ze zd (B7<|Ax b*f):=by
    have a1:=Ck zd u (a.length-(k+2)+1) ae;have a2:=AE (b:=zd) af<|AR w<|a.length-(k+2)+1;have a3:=Bp (b:=zd) af da;have a4:=yh a3 f0;have a5:(zd:Int)^a.length=(zd:Int)^(a.length-(k+2)+1)*(zd:Int)^(k+1):=by rw[<-Int.pow_add,show a.length-(k+2)+1+(k+1)=a.length by omega]
    have U:=Df (b:=zd) af db zb l;rw[C,show k+2-1=k+1 by omega]at U;have a7:=zq U (show 0<=f by omega);have a8:=zi a7<|z7 z;rw[a5,y8]at a4;show _<ze zd (Sp.dg zd<|ze zd b*f);rw[D];refine ym (a:=(zd:Int)^(a.length-(k+2)+1)) ?_<|z7 z;omega
   have go:=A1 (Q:=Ad SH (a,b)) (B7<|Ax b*f) k a.length f ⟨f0,f1⟩ B la9 ae vd (by have:0<(B7<|Ax b*f).getD (k+1) 0:=v1;omega) (ze zd a*f) (fun Y n ob A L m W=>by
    have N:ze zd (B7<|Ax b*f)=ze zd b*f:=D;rw[N]at W m;have e:ze zd Y=f*(ze zd a-ze zd n*ze zd b):=by
     have x1:ze zd b*f*ze zd n=f*(ze zd n*ze zd b):=by
      rw[z6 (ze zd b) f,y8,z6<|ze zd b]
     rw[x1,z6<|ze zd a]at W;rw[yz];omega
    have h0:=AE (b:=zd) af A;have r0:0<=ze zd a-ze zd n*ze zd b:=by
     rw[e]at h0;exact Int.nonneg_of_mul_nonneg_right h0 f0
    have r1:ze zd a-ze zd n*ze zd b<ze zd b:=by
     rw[e,z6 (ze zd b) f]at m;exact ym m ae
    obtain⟨u1,u2⟩:=(Int.ediv_emod_unique (a:=ze zd a) (b:=ze zd b) (r:=ze zd a-ze zd n*ze zd b) (q:=ze zd n) j).2 ⟨by rw[z6<|ze zd b];omega,r0,r1⟩;refine hg _ _ ob ?_ ?_
    ·rw[F5 L];show B7 (ze zd n)=B7 (ze zd a/ze zd b);rw[u1]
    ·show B7 (ze zd Y/f)=B7 (ze zd a % ze zd b);rw[u2,e,Int.mul_ediv_cancel_left _ ae]) (a.length-(k+2)+1) u [] (by simp) J w (fun x o=>by cases o) start (by rw[M];simp[ze])
   rw[List.append_nil]at go;exact go
end T109
theorem zY[Srt]:CL XG3:=Aa T109.ok AI
namespace T102
theorem Ar[Srt](g:Nat)(L:Int)(b:∀n:Nat,(n:Int)<L->A8 (B7 (n:Int))=true/\Ax (B7 (n:Int))=n/\(B7 (n:Int)).length<=9000)(d:∀ob,Q (.dat li<|B7 (g:Int)) ob):∀(f x y:Nat),y<f->Nat.gcd x y=g->(x:Int)<L->(y:Int)<L->
  Ends XG3 (L1 (B7 (x:Int))<|B7 (y:Int)) Q
 |0,x,y,h,_,_,_=>by omega
 |f+1,x,y,m,c,e,a=>by
  obtain⟨nx,i,k⟩:=b x e;obtain⟨ny,vy,ly⟩:=b y a
  refine zj (Al ..) ?_;conv=>zeta
  by_cases h0:y=0
  ·subst h0;rw[Nat.gcd_zero_right]at c;subst c;exact zn rfl (zh<|d _)
  ·have j:x % y<y:=Nat.mod_lt _ ae;have l:(B7 (y:Int)).length≠0:=by
    intro h;have:=ya.1 h;rw[this]at vy;simp[Ax,ze]at vy;omega
   rw[i,vy,VK];refine zc (by simp;omega) (zc (Ac (Ac (Ac (Ac nx ny)<|w4 k)<|w4 ly)<|w4 ae) ?_);exact Ar g L b d f y (x % y) ae (by rw[Nat.gcd_comm, <-Nat.gcd_rec,Nat.gcd_comm];exact c) a ae
theorem Vy{a:List Int}(h:A8 a=true):a=B7 (Ax a)/\0<=Ax a:=by
 obtain⟨_,d,z⟩:=Bq h;exact⟨Jt af d z,AE af d⟩
theorem Yh(n:Nat)(h:(n:Int)<(zd:Int)^9000):A8 (B7 (n:Int))=true/\Ax (B7 (n:Int))=n/\(B7 (n:Int)).length<=9000:=by
 obtain⟨a,_,b,c⟩:=Ho (n:=(n:Int)) (k:=9000) (Int.natCast_nonneg n) h af;exact⟨a,b,c⟩
theorem ok[Srt]:Af A5 102 Lc:=by
 refine BG zY<|fun(i:List Int×List Int) f=>?_;obtain⟨a,b⟩:=i;have f:(A8 a&&A8 b&&decide (a.length<=9000)&&decide (b.length<=9000))=true:=f;rw[zl,zl,zl,w5,w5]at f;obtain⟨⟨⟨na,nb⟩,la9⟩,lb9⟩:=f;obtain⟨ea,a0⟩:=Vy na;obtain⟨eb,b0⟩:=Vy nb;have g:Ax a<(zd:Int)^9000:=zy (Bp (b:=zd) af (Bq na).2.1) (AT af la9);have h:Ax b<(zd:Int)^9000:=zy (Bp (b:=zd) af (Bq nb).2.1) (AT af lb9);have key:∀(x y:Nat),Ax a=x->Ax b=y->Ends XG3 (L1 a b) (Ad Lc (a,b)):=by
  intro x y d c;rw[ea,eb,d,c];rw[d]at g;rw[c]at h;refine Ar (Nat.gcd x y) _ Yh (fun ob=>yb rfl rfl ?_) (y+1) x y (Nat.lt_succ_self _) rfl g h;have e:qc (Ax<|B7 (x:Int)) (Ax<|B7 (y:Int))=((Nat.gcd x y:Nat):Int):=by
   rw[(Yh x g).2.1,(Yh y h).2.1,Gk];rfl
  exact wi B7 e.symm
 obtain⟨x,d⟩:=yg a0;obtain⟨y,c⟩:=yg b0;exact zz (Ak a b)<|key x y d c
end T102
theorem Aak[Srt]:CL dX:=
 Aa (G9 ag<|Bd ag) (Aa (G9 ag<|Bd ag)<|Aa (G9 ag<|Bd ag)<|Aa (G9 ag<|Bd ag) AI)
theorem EL[Srt]:CL Oz:=fun g sp h=>by cases h
namespace T174
theorem AeJ:∀i:Fin 10,(Dq.getD i.1 0).toNat<128:=af
theorem EU[Srt](s:Rd)(i:Nat)(o:List Bool)(c:i<10)(d:o.length=256)(h:Ends dX (L2 s Dq Dq ((i+1:Nat):Int)<|o.set (Dq.getD i 0).toNat true) Q):Ends dX (L2 s Dq Dq (i:Int) o) Q:=by
 have b:Dq.length=10:=rfl;have a:=AeJ ⟨i,c⟩;have a:(Dq.getD i 0).toNat<128:=a;have e:=wn (i:=i) ae;refine zj (AL ..) ?_;conv=>zeta
 rw[b,e,zg,zg];exact zc (w4 ae) (zc (ad ae ae) (zn (w8 ae)<|zc (Ac (w4<|show(0:Int)<=((Dq.getD i 0).toNat:Int)by omega)<|w4 ae) (zc (w4 ae) h)))
def Tb(o:List Bool):Prop:=o.length=256/\∀c:UInt8,o.getD c.toNat false=BN c
theorem Ct[Srt](s t v0:Rd)(v4:Int)(i:List Bool)(f:Rd)(o1 b:List Bool)(g p0:List Bool)(h:Tb g):∀(w:Rd),(∀ob,Q (.dat .str<|w.dropWhile BN) ob)->Ends dX (L7 s t v0 v4 i f o1 b w g p0) Q
 |[],a=>zj (GQ ..) (zn (by simp)<|zh<|a _)
 |c::r,a=>by
  have j:c.toNat<256:=c.toNat_lt;have k:(c::r).getD 0 0=c:=rfl;have e:(qd 1 (c::r)).take (yi (c::r).length 1)=r:=by show r.take ((r.length+1)-1)=r;rw[yo];exact yc
  refine zj (GQ ..) ?_;conv=>zeta
  rw[k,zg,h.2,h.1,e];refine zc (by simp) (zc (by simp) (zc (Ac (w4<|show(0:Int)<=(c.toNat:Int)by omega)<|w4 ae)<|zc (w4 j)<|zk (fun d=>?_)<|fun d=>zc (by simp) ?_))
  ·have d:BN c=false:=by simpa using d
   rw[yf,wc<|by rw[d];decide]at a;exact zh<|a _
  ·have d:BN c=true:=by simpa using d
   rw[yf,wd d]at a;exact Ct s t v0 v4 i f o1 b g p0 h r a
theorem B2[Srt](s t v0:Rd)(v4:Int)(h:List Bool)(o1 a:List Bool)(g:Tb o1):∀(n:Nat) (w:Rd),w.length=n->n<=1000000->(∀ob,Q (.dat .str<|((w.reverse.dropWhile BN).reverse).dropWhile BN) ob)->Ends dX (L4 s t v0 v4 h w o1 a) Q
 |0,w,e,_,b=>by
  have:w=[]:=ya.1 e;subst this;exact zj (BU ..) (zn (by simp)<|zj (Kg ..)<|zn (by simp)<|zh<|b _)
 |n+1,w,e,l,b=>by
  obtain⟨p,c,rfl⟩:∃p c,w=p++[c]:=by
   have f:w≠[]:=by rintro rfl;simp at e
   exact⟨w.dropLast,w.getLast f,(yt f).symm⟩
  have hp:p.length=n:=by simpa using e
  have i:c.toNat<256:=c.toNat_lt;have j:zf .i64 (((p++[c]).length:Int)-1)=(n:Int):=by rw[e,wr _ ae ae];omega
  have k:(p++[c]).getD n 0=c:=E0 _ _ _ _ hp;have t1:(p++[c]).take n=p:=by rw[<-hp];exact List.take_left
  have hr:(p++[c]).reverse=c::p.reverse:=by simp
  rw[hr,yf]at b;refine zj (BU ..) (zc (w4 ae) ?_);rw[j,zg,k,t1,zg,g.2,g.1,e];refine zc (by simp;omega) (zc (Ac (w4<|show(0:Int)<=(c.toNat:Int)by omega)<|w4 ae)<|zc (w4 i)<|zk (fun d=>?_)<|fun d=>zc (by simp) ?_)
  ·have d:BN c=false:=by simpa using d
   rw[wc (by rw[d];decide),List.reverse_cons,List.reverse_reverse]at b;exact Ct s t v0 v4 h _ o1 a o1 a g (p++[c]) b
  ·have d:BN c=true:=by simpa using d
   rw[wd d]at b;exact B2 s t v0 v4 h o1 a g n p hp ae b
theorem Agf{o:List Bool}(b:o.length=256)(a:∀c:Fin 256,o.getD c.1 false=(Nat.ble 48 c.1&&Nat.ble c.1 57)):Tb o:=by
 refine⟨b,fun c=>?_⟩;have:=a ⟨c.toNat,c.toNat_lt⟩;rw[show o.getD c.toNat false=_ from this];unfold BN;rw[Bool.eq_iff_iff];simp[Nat.ble_eq]
set_option maxRecDepth 10000 in
theorem ok[Srt]:Af A5 174 Yj:=by
 refine BG Aak<|fun(i:Rd×Rd) a=>?_;obtain⟨s,t⟩:=i;have a:(decide (t=Dq)&&decide (s.length<=1000000))=true:=a;rw[zl,w5,w5]at a;obtain⟨rfl,hl⟩:=a;have b:∀ob,Ad Yj (s,Dq) (.dat .str<|((s.reverse.dropWhile BN).reverse).dropWhile BN) ob:=fun ob=>yb rfl rfl rfl
 refine zz (Ak s Dq) (zk (fun c=>?_)<|fun c=>zn af (zn af ?_))
 ·have c:s=[]:=by simpa using c
  subst c;exact zh<|b _
 ·refine EU s 0 _ af rfl (EU s 1 _ af rfl (EU s 2 _ af rfl (EU s 3 _ af rfl (EU s 4 _ af rfl (EU s 5 _ af rfl (EU s 6 _ af rfl (EU s 7 _ af rfl (EU s 8 _ af rfl (EU s 9 _ af rfl ?_)))))))));refine zj (AL ..) (zn af<|zc (by decide+kernel) (zc (by decide+kernel)<|zc (by decide+kernel)<|zc rfl (B2 s _ _ _ _ _ _ (Agf rfl ?_) s.length s rfl hl b)));decide+kernel
end T174
theorem AaJ[Srt]:CL XH1:=Aa T174.ok AI
theorem dropWhile_nil{p:UInt8->Bool}:∀ {l:Rd},l.dropWhile p=[]↔l.all p=true
 |[]=>by simp
 |a::l=>by
  rw[yf,qo];cases h:p a with
  |true=>simp only[wm,yn];exact dropWhile_nil
  |false=>simp
theorem Je{p:UInt8->Bool}:∀ {l:Rd} {a:UInt8} {r:Rd},l.dropWhile p=a::r->p a=false
 |[],a,r,h=>by simp at h
 |b::l,a,r,h=>by
  rw[yf]at h;cases c:p b with
  |true=>rw[c,wd rfl]at h;exact Je h
  |false=>
   rw[c]at h;simp at h;rw[<-h.1];exact c
theorem MN(s:Rd):Qe s=[]↔Ap s=true:=by
 unfold Qe Ap;rw[dropWhile_nil,qe];constructor
 ·intro h;cases b:s.reverse.dropWhile BN with
  |nil=>have:=dropWhile_nil.1 b;rwa [qe]at this
  |cons a r=>
   rw[b,qo,Je b]at h;cases h
 ·intro h;have:s.reverse.dropWhile BN=[]:=dropWhile_nil.2 (by rwa [qe]);rw[this];rfl
theorem T137.ok[Srt]:Af A5 137 XT:=by
 refine BG AaJ<|fun(s:Rd) f=>?_;have f:s.length<=1000000:=w6 f;have a:∀v b ob,v=.bl b\/v=.dat .bool b->b=AY s->Ad XT s v ob:=by
  rintro v b ob (rfl|rfl) g
  ·exact yb rfl rfl g
  ·exact yb rfl rfl g
 refine zz (T137.Ak s)<|zk (fun c=>zc ?_<|zk (fun d=>zc ?_<|zk (fun e=>zh<|a _ _ _ (.inl rfl) ?_)<|fun e=>zh<|a _ _ _ (.inr rfl) ?_)<|fun d=>zh<|a _ _ _ (.inl rfl) ?_)<|fun c=>zh<|a _ _ _ (.inl rfl) ?_
 ·exact Ac (w4 rfl)<|w4 f
 ·have c:s≠[]:=by simpa using c
  have:s.length≠0:=fun h=>c<|ya.1 h
  exact w4 ae
 ·have c:s≠[]:=by simpa using c
  have d:Qe s=[]:=by simpa using d
  have d:=(MN s).1 d;have e:s.getD 0 0≠48:=by
   intro h;rw[h]at e;exact wh e af
  unfold AY;rw[d,w4 c,w4 e];rfl
 ·have c:s≠[]:=by simpa using c
  have d:Qe s=[]:=by simpa using d
  have d:=(MN s).1 d;have e:s.getD 0 0=48:=by
   have:((s.getD 0 0).toNat:Int)=48:=by simpa using e
   exact ye.1 (by show _=48;omega)
  unfold AY;rw[d,w4 c,w8<|by rw[e];exact fun h=>h rfl];show(s==[48])=decide (s=[48]);rw[Bool.eq_iff_iff];simp
 ·have d:¬Qe s=[]:=by simpa using d
  have d:Ap s=false:=by
   cases h:Ap s with
   |true=>exact wh ((MN s).2 h) d
   |false=>rfl
  unfold AY;rw[d];simp
 ·have c:s=[]:=by simpa using c
  subst c;rfl
theorem T136.ok[Srt]:Af A5 136 Abm:=by
 refine BG EL<|fun(i:Rd×Rd) b=>?_;obtain⟨s,t⟩:=i;have b:(decide (t=[45])&&decide (s.length<=1000000))=true:=b;rw[zl,w5,w5]at b;obtain⟨rfl,hl⟩:=b;have a:s.getD 0 0≠45->(s,false)=(A2 s,qm s):=fun h=>by
  unfold A2 qm;rw[wc h,w8 h]
 refine zz (T136.Ak s [45]) ?_;conv=>zeta
 cases s with
 |nil=>exact zn af (zh<|yb rfl rfl (a af))
 |cons c r=>
  have f:(c::r).take 1=[c]:=rfl;refine zc (by simp;omega) (zc (by simp) ?_);show Ends Oz (.ite (!List.take 1 (c::r)==[45]) _ _) _;rw[f];refine zk (fun d=>zh<|yb rfl rfl (a ?_)) (fun d=>zc (by simp)<|zh<|yb rfl rfl ?_)
  ·show c≠45;rintro rfl;exact wh d af
  ·have d:c=45:=by simpa using d
   subst d;show(((qd 1 ((45:UInt8)::r)).take<|yi ((45:UInt8)::r).length 1),true)=(A2 (45::r),qm (45::r));have e:(qd 1 ((45:UInt8)::r)).take (yi ((45:UInt8)::r).length 1)=r:=by show r.take ((r.length+1)-1)=r;rw[yo];exact yc
   rw[e];rfl
theorem AcQ{F:Fz}{s:Rd}{c:Int}{args:List V}(h:KN F (Ag [Sh.str,Sh.int .u8] (s,c)) args):args=[.str s,.int .u8 c]:=by
 have:=h (fun _=>none) 0;simp only[Ag,B1,BE]at this;obtain⟨a,g,rfl,d,b,f,rfl,e,rfl⟩:=this;simp only[PR,DC,List.cons.injEq,ve]at d e;rw[d,e]
theorem T253.ok[Srt]:Af A5 253 Ab8:=by
 refine .inr ⟨PK.indexByte.run,by kernel_rfl,fun F h args i a hp=>?_⟩;obtain⟨s,c⟩:=i;have:=AcQ a;subst this;refine⟨Wq<|s.findIdx? fun x=>x==c.toNat.toUInt8,rfl,fun ρ N=>?_⟩;show PR F ρ N (.dat i64<|Q4 s c) _;unfold Q4;cases s.findIdx? fun x=>x==c.toNat.toUInt8 with
 |none=>simp[PR,DC,Wq]
 |some i=>simp[PR,DC,Wq,Det.i64]
theorem xE[Srt]:CL XH2:=Aa T253.ok AI
theorem YX{p:UInt8->Bool}{s:Rd}{i:Nat}(h:s.findIdx? p=some i):i<s.length:=(List.findIdx?_eq_some_iff_getElem.1 h).1
theorem T123.ok[Srt]:Af A5 123 mQ:=by
 refine BG xE<|fun(i:Rd×Rd) e=>?_;obtain⟨s,t⟩:=i;have e:(decide (t=[47])&&decide (s.length<=1000000))=true:=e;rw[zl,w5,w5]at e;obtain⟨rfl,hl⟩:=e;have a:s.any (fun x=>x==47)=(s.findIdx? fun x=>x==47).isSome:=by
  rw[List.findIdx?_isSome]
 refine zz (T123.Ak s [47]) (zn af<|zk (fun c=>?_)<|fun c=>zc af<|zc af<|zc af ?_)
 ·have c:s=[47]:=by
   have:[47]=s:=by simpa using c
   exact this.symm
  subst c;exact zc rfl (zc rfl (zc rfl (zh<|yb rfl rfl rfl)))
 ·have b:Q4 s (((([47]:Rd).getD 0 0).toNat:Nat):Int)=match s.findIdx? (fun x=>x==47)with
   |some i=>(i:Int)
   |none=> -1:=rfl
  cases d:s.findIdx? (fun x=>x==47)with
  |none=>
   rw[d]at b;have b:Q4 s (((([47]:Rd).getD 0 0).toNat:Nat):Int)= -1:=b;rw[b];refine zn af<|zh<|yb rfl rfl ?_;show(s,[],false)=(AF s,zw s,BF s);unfold AF zw BF;rw[a,d];rfl
  |some k=>
   rw[d]at b;have b:Q4 s (((([47]:Rd).getD 0 0).toNat:Nat):Int)=(k:Int):=b;have h:=YX d;have g:zf .i64 ((k:Int)+(([47]:Rd).length:Int))=((k+1:Nat):Int):=by
    show zf .i64 ((k:Int)+1)=_;rw[wr _ ae ae];omega
   rw[b,g,zg,zg];refine zc (by simp) (zc (by simp;omega)<|zc (by simp;omega)<|zh<|yb rfl rfl ?_);show(s.take k,(s.drop<|k+1).take<|yi s.length<|k+1,true)=(AF s,zw s,BF s);unfold AF zw BF;have f:(s.drop<|k+1).take (yi s.length<|k+1)=s.drop (k+1):=zm (by rw[zo];exact yr _);rw[a,d,f];rfl
namespace T104
theorem Ar[Srt]{Q:PV->Ob->Prop}(s:Rd)(b:Ap s=true)(j:s.length<=18)(f:∀ob,Q (.dat i64<|AG 0 s) ob):∀(r:Rd) (i:Nat),s.drop i=r->i<=s.length->Ends uT (L1 s (AG 0<|s.take i) i) Q
 |[],i,h,g=>by
  have u:i=s.length:=drop_nil h g;subst u;rw[yc];exact zj (Al ..) (zn (by simp)<|zh<|f _)
 |c::r,i,h,g=>by
  obtain⟨l,p,o⟩:=drop_cons (d:=0) h;have t:=Bf<|Bg b i;have a:(s.take i).length=i:=by rw[zr];omega
  rw[a]at t;have hp:(10:Int)^i<=10^17:=AT af ae;have n:BN c=true:=by
   unfold Ap at b;rw[y9]at b;exact b c<|kB h
  have k:=Fa n;have w:48<=c.toNat/\c.toNat<=57:=by unfold KY at k;omega
  have v:zf .i64 (c.toNat:Int)=(c.toNat:Int):=wr _ ae ae;have e:(10:Int)^17=100000000000000000:=af
  have m:zf .i64 (zf .i64 (zf .i64 (10*AG 0 (s.take i))+(c.toNat:Int))-48)=AG 0 (s.take<|i+1):=by
   rw[hI h,CU];show _=10*AG 0 (s.take i)+((c.toNat:Int)-48);generalize AG 0 (s.take i)=D at*;rw[wr (10*D) ae ae,wr (10*D+(c.toNat:Int)) ae ae,wr _ ae ae];omega
  have q:=wn (i:=i) ae;refine zj (Al ..) (zc (by simp;omega) ?_);rw[zg,p,v,m,q];exact zc (by simp;omega)<|Ar s b j f r (i+1) o l
theorem ok[Srt]:Af A5 104 U4:=by
 refine BG Tp<|fun(s:Rd) a=>?_;have a:(decide (s.length<=18)&&Ap s)=true:=a;rw[zl,w5]at a;exact zz (Ak s)<|Ar s a.2 a.1 (fun ob=>yb rfl rfl rfl) s 0 rfl (Nat.zero_le _)
end T104
theorem yJ[Srt]:CL iS:=Aa T104.ok<|Aa T110.ok AI
theorem My{neg:Bool}{w:List Int}{D:Int}(c:Az zd w)(d:ze zd w=D):(CY neg w,AB w)=(Sp.rN<|if neg=true then -D else D,Sp.rW<|if neg=true then -D else D):=by
 have h0:=AE (b:=zd) af c;rw[d]at h0;have e:AB w=B7 D:=by rw[F5 c];show B7 (ze zd w)=_;rw[d]
 have a:B7 D=[]↔D=0:=AcA af h0;have f:Ah (if neg=true then -D else D)=D:=by rw[Aj];split<;>omega
 unfold CY Sp.rW Sp.rN;rw[f,e];congr 1;cases neg with
 |false=>simp;omega
 |true=>
  simp only[wm,yn,vc,a,decide_eq_decide];omega
namespace T107
theorem Af0:(10:Int)^9=1000000000:=af
theorem JK{s:Rd}{m:Nat}(a:m+9=s.length):AG 0 s=AG 0 (s.take m)*1000000000+AG 0 (s.drop m):=by
 conv=>lhs;rw[<-yd m s]
 rw[CU,EK<|s.drop m,zo,show s.length-m=9 by omega,Af0]
theorem CC{s:Rd}(b:Ap s=true)(h:s.length<=9):0<=AG 0 s/\AG 0 s<1000000000:=by
 have:=Bf b;have a:(10:Int)^s.length<=10^9:=AT af h;rw[Af0]at a;omega
theorem Ca{s:Rd}(a:Ap s=true)(h:s.length<=18):DU s=true:=by
 unfold DU;rw[a,Bool.and_true];exact w4 h
theorem C9[Srt](neg:Bool)(D:Int)(h:∀(w:List Int) ob,Az zd w->ze zd w=D->Q (.agg [.dat .bool<|CY neg w,.dat li<|AB w]) ob):∀(f:Nat) (s:Rd) (o1:List Int),s.length<=f->Ap s=true->o1.length+s.length<=6000->Az zd o1->ze zd o1+(zd:Int)^o1.length*AG 0 s=D->Ends iS (L3 s neg o1.length o1) Q:=by
 intro f;induction f with
 |zero=>
  intro s o1 l a i c d;have g:s.length<=9:=ae
  have b:=CC a g;have e:(o1++[BO s]).take (qv o1.length 1)=o1++[BO s]:=zm (by simp);refine zj (BT ..) (zn (by simp;omega) (zc (Ca a ae)<|zc (by simp;omega) ?_));rw[e];refine zc (by simp;omega)<|zh<|h _ _ (Fy c b) ?_;rw[Cm];exact d
 |succ f j=>
  intro s o1 l a i c d;by_cases g:s.length<=9
  ·have b:=CC a g;have e:(o1++[BO s]).take (qv o1.length 1)=o1++[BO s]:=zm (by simp);refine zj (BT ..) (zn (by simp;omega) (zc (Ca a ae)<|zc (by simp;omega) ?_));rw[e];refine zc (by simp;omega)<|zh<|h _ _ (Fy c b) ?_;rw[Cm];exact d
  ·obtain⟨m,n⟩:∃m,m+9=s.length:=⟨s.length-9,by omega⟩;have o:zf .i64 ((s.length:Int)-9)=(m:Int):=by rw[wr _ ae ae];omega
   have k:(s.drop m).take (yi s.length m)=s.drop m:=zm (by rw[zo];exact yr _);have b:=CC (B0 a m) (by rw[zo];omega);refine zj (BT ..) (zc (by simp;omega) ?_);rw[o,zg,k];refine zc (by simp;omega) (zc (Ca (B0 a m)<|by rw[zo];omega) (zc (by simp;omega)<|zc (by simp;omega) ?_));have:=j (s.take m) (o1++[BO<|s.drop m]) (by rw[zr];omega) (Bg a m) (by simp;omega) (Fy c b) (by
    rw[Cm,zx];show ze zd o1+(zd:Int)^o1.length*AG 0 (s.drop m)+(zd:Int)^(o1.length+1)*AG 0 (s.take m)=D;rw[Mg,qn, <-zu, <-d,JK n];congr 2;omega)
   rw[zx]at this;exact this
theorem B2[Srt](D:Int)(h:∀(w:List Int) ob,Az zd w->ze zd w=D->Q (.agg [.dat .bool<|CY false w,.dat li<|AB w]) ob):∀(f:Nat) (s:Rd) (o1:List Int),s.length<=f->Ap s=true->o1.length+s.length<=6000->Az zd o1->ze zd o1+(zd:Int)^o1.length*AG 0 s=D->Ends iS (L4 s o1.length o1) Q:=by
 intro f;induction f with
 |zero=>
  intro s o1 l a i c d;have g:s.length<=9:=ae
  have b:=CC a g;have e:(o1++[BO s]).take (qv o1.length 1)=o1++[BO s]:=zm (by simp);refine zj (BU ..) (zn (by simp;omega) (zc (Ca a ae)<|zc (by simp;omega) ?_));rw[e];refine zc (by simp;omega)<|zh<|h _ _ (Fy c b) ?_;rw[Cm];exact d
 |succ f j=>
  intro s o1 l a i c d;by_cases g:s.length<=9
  ·have b:=CC a g;have e:(o1++[BO s]).take (qv o1.length 1)=o1++[BO s]:=zm (by simp);refine zj (BU ..) (zn (by simp;omega)<|zc (Ca a ae) (zc (by simp;omega) ?_));rw[e];refine zc (by simp;omega)<|zh<|h _ _ (Fy c b) ?_;rw[Cm];exact d
  ·obtain⟨m,n⟩:∃m,m+9=s.length:=⟨s.length-9,by omega⟩;have o:zf .i64 ((s.length:Int)-9)=(m:Int):=by rw[wr _ ae ae];omega
   have k:(s.drop m).take (yi s.length m)=s.drop m:=zm (by rw[zo];exact yr _);have b:=CC (B0 a m) (by rw[zo];omega);refine zj (BU ..) (zc (by simp;omega) ?_);rw[o,zg,k];refine zc (by simp;omega) (zc (Ca (B0 a m)<|by rw[zo];omega) (zc (by simp;omega)<|zc (by simp;omega) ?_));have:=j (s.take m) (o1++[BO<|s.drop m]) (by rw[zr];omega) (Bg a m) (by simp;omega) (Fy c b) (by
    rw[Cm,zx];show ze zd o1+(zd:Int)^o1.length*AG 0 (s.drop m)+(zd:Int)^(o1.length+1)*AG 0 (s.take m)=D;rw[Mg,qn, <-zu, <-d,JK n];congr 2;omega)
   rw[zx]at this;exact this
theorem Ar[Srt](neg:Bool)(s:Rd)(a:Ap s=true)(i:s.length<=5999)(d:∀(w:List Int) ob,Az zd w->ze zd w=AG 0 s->Q (.agg [.dat .bool<|CY neg w,.dat li<|AB w]) ob):Ends iS (L1 s neg) Q:=by
 by_cases h:s.length<=9
 ·have b:=CC a h;refine zj (Al ..) (zn (by simp;omega) (zc (Ca a ae)<|zc rfl (zc rfl (zh<|d _ _ (Fy (l:=[]) (fun x c=>by cases c) b) ?_))));show ze zd [AG 0 s]=_;exact Eu _
 ·obtain⟨m,f⟩:∃m,m+9=s.length:=⟨s.length-9,by omega⟩;have e:zf .i64 ((s.length:Int)-9)=(m:Int):=by rw[wr _ ae ae];omega
  have g:(s.drop m).take (yi s.length m)=s.drop m:=zm (by rw[zo];exact yr _);have b:=CC (B0 a m) (by rw[zo];omega);refine zj (Al ..) (zc (by simp;omega) ?_);rw[e,zg,g];refine zc (by simp;omega) (zc (Ca (B0 a m)<|by rw[zo];omega) (zc rfl (zc (by simp;omega) ?_)));refine C9 neg (AG 0 s) d m (s.take m) [BO<|s.drop m] (by rw[zr];omega) (Bg a m) (by simp;omega) (Fy (l:=[]) (fun x c=>by cases c) b) ?_;rw[Eu,JK f];show AG 0 (s.drop m)+(zd:Int)^1*_=_;rw[yp,qu,yq,z6];exact Int.add_comm _ _
theorem A1[Srt](s:Rd)(a:Ap s=true)(i:s.length<=5999)(d:∀(w:List Int) ob,Az zd w->ze zd w=AG 0 s->Q (.agg [.dat .bool<|CY false w,.dat li<|AB w]) ob):Ends iS (L2 s) Q:=by
 by_cases h:s.length<=9
 ·have b:=CC a h;refine zj (AL ..) (zn (by simp;omega)<|zc (Ca a ae) (zc rfl (zc rfl (zh<|d _ _ (Fy (l:=[]) (fun x c=>by cases c) b) ?_))));show ze zd [AG 0 s]=_;exact Eu _
 ·obtain⟨m,f⟩:∃m,m+9=s.length:=⟨s.length-9,by omega⟩;have e:zf .i64 ((s.length:Int)-9)=(m:Int):=by rw[wr _ ae ae];omega
  have g:(s.drop m).take (yi s.length m)=s.drop m:=zm (by rw[zo];exact yr _);have b:=CC (B0 a m) (by rw[zo];omega);refine zj (AL ..) (zc (by simp;omega) ?_);rw[e,zg,g];refine zc (by simp;omega) (zc (Ca (B0 a m)<|by rw[zo];omega) (zc rfl (zc (by simp;omega) ?_)));refine B2 (AG 0 s) d m (s.take m) [BO<|s.drop m] (by rw[zr];omega) (Bg a m) (by simp;omega) (Fy (l:=[]) (fun x c=>by cases c) b) ?_;rw[Eu,JK f];show AG 0 (s.drop m)+(zd:Int)^1*_=_;rw[yp,qu,yq,z6];exact Int.add_comm _ _
theorem ok[Srt]:Af A5 107 TV:=by
 refine BG yJ<|fun(s:Rd) a=>?_;have a:(decide (s.length<=5999)&&(if s.getD 0 0=45 then Ap (s.drop 1)else Ap s))=true:=a;rw[zl,w5]at a;obtain⟨g,a⟩:=a;have fin:∀(neg:Bool) (D:Int),Cw s=(if neg=true then -D else D)->∀(w:List Int) ob,Az zd w->ze zd w=D->Ad TV s (.agg [.dat .bool<|CY neg w,.dat li<|AB w]) ob:=by
  intro neg D hr w ob h i;refine yb rfl rfl ?_;show(CY neg w,AB w)=(Sp.rN<|Cw s,Sp.rW<|Cw s);rw[hr];exact My h i
 refine zz (Ak s) ?_;conv=>zeta
 cases s with
 |nil=>exact zn af (A1 [] rfl af (fin false 0 rfl))
 |cons c r=>
  have f:(c::r).getD 0 0=c:=rfl;rw[f]at a;rw[f];refine zc (by simp) (zc (by simp)<|zk (fun d=>?_)<|fun d=>?_)
  ·have b:c=45:=by
    have:(c.toNat:Int)=45:=by simpa using d
    exact ye.1 (by show _=45;omega)
   rw[wd b]at a;have e:(qd 1 (c::r)).take (yi (c::r).length 1)=r:=by show r.take ((r.length+1)-1)=r;rw[yo];exact yc
   rw[d,e];refine zc (by simp) (Ar true r a (by simp at g;omega)<|fin true _ ?_);unfold Cw;rw[f,wd b,wd rfl];rfl
  ·have b:c≠45:=by
    rintro rfl;exact wh d af
   rw[wc b]at a;rw[d];refine Ar false (c::r) a g<|fin false _ ?_;unfold Cw;rw[f,wc b,wc af]
end T107
theorem wH[Srt]:CL Rn:=
 Aa T77n.ok (Aa T160.ok<|Aa T127.ok<|Aa T126.ok<|Aa T130.ok<|Aa (G9 (by rfl)<|Bd ag)<|Aa (G9 (by rfl)<|Bd ag) AI)
theorem SZ(k:Nat):Fb 18 (k:Int)=((min 18 k:Nat):Int):=by grind [Fb]
theorem AbX(n:Int):zf .u8 n=n % 256:=by rfl
theorem AdN(k:Nat):(10:Int)^k<=(Ao:Int)^k:=by
 induction k with
 |zero=>simp
 |succ k a=>
  grind
theorem GS{n:Int}(h0:0<=n)(h:n<(10:Int)^(6000:Nat)):A9 (CR n)=true:=by
 refine DM ?_;grind [Aj]
theorem Oj(m n:Int):E7 (CP m,CO m) (CP n,CO n)=CP (m*n)/\E2 (CP m,CO m) (CP n,CO n)=CO (m*n):=by
 constructor
 ·show CP (ql (CR _)*ql (CR _))=_;rw[Cz,Cz]
 ·show CO (ql (CR _)*ql (CR _))=_;rw[Cz,Cz]
theorem xC{a b:AJ}(h:0<=ql a+ql b):Ex a b=CR (ql a+ql b):=by
 unfold Ex;grind [Cv,CR,ql]
theorem Ov{m v:Int}(e:0<=m)(f:0<=v):Kn (CP m,CO m) (v,Bo v)=CP (m+v)/\Kf (CP m,CO m) (v,Bo v)=CO (m+v):=by
 have d:ql (CP m,CO m)=m:=Cz m;have c:ql (v,Bo v)=v:=by rw[EM,Fm]
 have:=xC (a:=(CP m,CO m)) (b:=(v,Bo v)) ae;rw[d,c]at this;exact⟨wi Prod.fst this,wi Prod.snd this⟩
theorem OH(n:Nat):Vn ((10:Int),Bo (10:Int)) (n:Int)=CP (10^n)/\WM ((10:Int),Bo (10:Int)) (n:Int)=CO (10^n):=by
 simp_all [Ya,EM,Fm,Vn,WM]
theorem sO:A9 ((10:Int),Bo (10:Int))=true:=by rfl
theorem qC{n:Nat}(h:n<=18):Aag (ql ((10:Int),Bo (10:Int))) (n:Int)=true:=by
 have b:(10:Int)^n<=10^18:=AT af h;have c:(10:Int)^18<18446744073709551616^1:=af
 have a:(18446744073709551616:Int)^(1:Nat)<=18446744073709551616^(4000:Nat):=ae;exact Ac (ad ae ae)<|w4<|Int.lt_of_le_of_lt b<|zy c a
theorem Vo{v:Int}(h0:0<=v)(h:v<1000000000000000000):A9 (v,Bo v)=true:=by
 rw[EM];exact Ac (by grind [Lg,EX]) (by rfl)
theorem bR{w:Rd}(a:Ap w=true)(h:w.length<=18):0<=AG 0 w/\AG 0 w<1000000000000000000:=by
 have:=Bf a;have b:(10:Int)^w.length<=10^18:=AT af h;omega
namespace T124
theorem Ct[Srt](W:Rd)(neg:Bool)(v:Int)(h:List Int)(q:Int)(w:Rd)(n:Nat)(C:w=W.take n)(hW:Ap W=true)(s:n=min 18 W.length)(D:1<=W.length)(a f:Int)(a0:0<=a)(u:A9 (CR a)=true)(i:A9 (CR<|a*10^n)=true)
  (o:Ends Rn (L5 (W.drop n) neg (CP<|a*10^n+AG 0 w) (CO<|a*10^n+AG 0 w) f) Q):
  ∀(r:Rd) (j:Nat),w.drop j=r->j<=w.length->Ends Rn (L7 W neg v h q w (AG 0<|w.take j) w.length w.length j (w.map fun b=>(b.toNat:Int)) (CP a) (CO a) f) Q
 |[],j,hr,g=>by
  have e:Ap w=true:=by grind [Bg]
  have p:w.length=n:=ah
  have G:j=w.length:=drop_nil hr g;subst G;have k:=bR e ae;obtain⟨c,t,L⟩:∃c t,w=c::t:=by
   cases w with
   |nil=>grind
   |cons c t=>simp
  have l:((((w.getD 0 0).toNat:Int)==(45:Int))=false):=by
   unfold Ap at e;grind [BN]
  have y:(W.drop n).take (yi W.length n)=W.drop n:=(by simp_all [zm]);have p0:0<=a*10^n:=z8 a0 ah;have E:A9 (CP<|10^n,CO<|10^n)=true:=by
   refine Gs (GS (n:=(10:Int)^n) ah ?_);have J:(10:Int)^n<=10^18:=AT af ae;omega
  refine zj (GQ ..) (zn (by simp)<|zc ah ?_);rw[l,SZ, <-s,(OH n).1,(OH n).2,yc];refine zn rfl (zc rfl (zc (by grind [sO,qC])<|zc (Ac u E)<|zc rfl ?_));rw[(Oj _ _).1,(Oj _ _).2,(Ov p0 k.1).1,(Ov p0 k.1).2,zg,y];exact zc (Ac i<|Vo k.1 k.2) (by grind [zc])
 |c::r,j,hr,g=>by
  have e:Ap w=true:=by grind [Bg]
  have p:w.length=n:=ah
  obtain⟨B,M,A⟩:=drop_cons (d:=0) hr;have m:BN c=true:=by
   grind [Ap]
  have I:=Fa m;have K:=Bf<|Bg e j;have hp:(10:Int)^j<=10^17:=AT af ae;have z:(w.map fun b=>(b.toNat:Int)).getD j 0=(c.toNat:Int):=by
   grind
  have H:zf .u8 ((c.toNat:Int)-48)=KY c:=by
   grind [AbX,KY]
  have x:zf .i64 (zf .i64 (AG 0 (w.take j)*10)+zf .i64 (KY c))=AG 0 (w.take<|j+1):=by
   grind [CU,AG,wr]
  have F:zf .i64 ((j:Int)+1)=((j+1:Nat):Int):=by grind [wr]
  refine zj (GQ ..) (zc ah ?_);rw[zg,z,H,x,F];refine zc ah (zc ah (zn ah ?_));exact Ct W neg v h q w n C hW s D a f a0 u i o r (j+1) A B
theorem C9[Srt](W:Rd)(neg:Bool)(u:Int)(q:Int)(w:Rd)(n:Nat)(B:w=W.take n)(hW:Ap W=true)(s:n=min 18 W.length)(C:1<=W.length)(a f:Int)(o:a=0)(a0:0<=a)(G:A9 (CR a)=true)(h:A9 (CR<|a*10^n)=true)
  (m:Ends Rn (L5 (W.drop n) neg (CP<|a*10^n+AG 0 w) (CO<|a*10^n+AG 0 w) f) Q):
  ∀(r:Rd) (j:Nat),w.drop j=r->j<=w.length->Ends Rn (L3 W neg u q w (AG 0<|w.take j) w.length w.length j (w.map fun b=>(b.toNat:Int)) 0 f) Q
 |[],j,hr,g=>by
  have e:Ap w=true:=by grind [Bg]
  have p:w.length=n:=ah
  have F:j=w.length:=drop_nil hr g;subst F;have i:=bR e ae;obtain⟨c,t,L⟩:∃c t,w=c::t:=by
   cases w with
   |nil=>grind
   |cons c t=>simp
  have k:((((w.getD 0 0).toNat:Int)==(45:Int))=false):=by
   unfold Ap at e;grind [BN]
  have x:(W.drop n).take (yi W.length n)=W.drop n:=(by simp_all [zm]);have p0:0<=a*10^n:=ah;have D:A9 (CP<|10^n,CO<|10^n)=true:=by
   refine Gs (GS (n:=(10:Int)^n) ah ?_);have J:(10:Int)^n<=10^18:=AT af ae;omega
  refine zj (BT ..) (zn (by simp)<|zc ah ?_);rw[k,SZ, <-s,(OH n).1,(OH n).2,yc];refine zn rfl (zc rfl (zc (by grind [sO,qC])<|zc (Ac (by rfl) D)<|zc rfl ?_));rw[show E7 ((0:Int),[]) (CP<|10^n,CO<|10^n)=CP (a*10^n)by rw[o];exact(Oj 0 _).1,show E2 ((0:Int),[]) (CP<|10^n,CO<|10^n)=CO (a*10^n)by rw[o];exact(Oj 0 _).2,(Ov p0 i.1).1,(Ov p0 i.1).2,zg,x];exact zc (Ac h<|Vo i.1 i.2) (by grind [zc])
 |c::r,j,hr,g=>by
  have e:Ap w=true:=by grind [Bg]
  have p:w.length=n:=ah
  obtain⟨A,M,z⟩:=drop_cons (d:=0) hr;have l:BN c=true:=by
   grind [Ap]
  have I:=Fa l;have K:=Bf<|Bg e j;have hp:(10:Int)^j<=10^17:=AT af ae;have y:(w.map fun b=>(b.toNat:Int)).getD j 0=(c.toNat:Int):=by
   grind
  have H:zf .u8 ((c.toNat:Int)-48)=KY c:=by
   grind [AbX,KY]
  have v:zf .i64 (zf .i64 (AG 0 (w.take j)*10)+zf .i64 (KY c))=AG 0 (w.take<|j+1):=by
   grind [CU,AG,wr]
  have E:zf .i64 ((j:Int)+1)=((j+1:Nat):Int):=by grind [wr]
  refine zj (BT ..) (zc ah ?_);rw[zg,y,H,v,E];refine zc ah (zc ah<|zn ah ?_);exact C9 W neg u q w n B hW s C a f o a0 G h m r (j+1) z A
theorem AaW[Srt](W:Rd)(neg:Bool)(o1:Int)(a:List Int)(e:Int)(hW:Ap W=true)(i:1<=W.length)(n:Nat)(g:n=min 18 W.length)
  (h:Ends Rn (L7 W neg o1 a e (W.take n) 0 (W.take n).length (W.take n).length 0 ((W.take n).map fun b=>(b.toNat:Int)) o1 a e) Q):Ends Rn (L5 W neg o1 a e) Q:=by
 have d:=Bg hW n;have f:((((W.take n).getD 0 0).toNat:Int)==(45:Int))=false/\((((W.take n).getD 0 0).toNat:Int)==(43:Int))=false:=by
  cases j:W.take n with
  |nil=>simp
  |cons c t=>
   unfold Ap at d;grind [BN]
 refine zj (Fi ..) (zc ah ?_);rw[SZ, <-g,zg,f.1,f.2];exact zc ah (zc ah (zc ah<|zc ah<|zn rfl (zc ah<|zn rfl h)))
theorem wF[Srt](W:Rd)(neg:Bool)(o1:Int)(d:Int)(hW:Ap W=true)(g:1<=W.length)(n:Nat)(f:n=min 18 W.length)
  (h:Ends Rn (L3 W neg o1 d (W.take n) 0 (W.take n).length (W.take n).length 0 ((W.take n).map fun b=>(b.toNat:Int)) o1 d) Q):Ends Rn (L1 W neg o1 d) Q:=by
 have a:=Bg hW n;have e:((((W.take n).getD 0 0).toNat:Int)==(45:Int))=false/\((((W.take n).getD 0 0).toNat:Int)==(43:Int))=false:=by
  cases i:W.take n with
  |nil=>simp
  |cons c t=>
   unfold Ap at a;grind [BN]
 refine zj (Al ..) (zc ah ?_);rw[SZ, <-f,zg,e.1,e.2];exact zc ah (zc ah<|zc ah (zc ah<|zn rfl (zc ah<|zn rfl h)))
theorem Ade(n:Int)(h:0<=n):(EB (CP n,CO n),EC (CP n,CO n))=CR (-n):=by
 show Dd (CR n)=_;unfold Dd;split
 ·next c=>
  have:=Cz n;rw[Bv c.1]at this;rw[this,Cn (n:= -n)];by_cases a: -9223372036854775808<n/\n<9223372036854775808
  ·omega
  ·have e:CR n=(1,Bs<|Ah n):=by simp_all [CR,wc]
   grind
 ·rw[Cz]
theorem ZK{a D:Int}{W:Rd}{n:Nat}(b:0<=a)(hW:Ap W=true)(g:n<=W.length)(h:a*10^W.length+AG 0 W=D):(a*10^n+AG 0 (W.take n))*10^(W.drop n).length+AG 0 (W.drop n)=D/\a<=D/\a*10^n<=D:=by
 have f:AG 0 W=AG 0 (W.take n)*10^(W.drop n).length+AG 0 (W.drop n):=by
  grind [yd,CU,EK]
 have c:W.length=n+(W.drop n).length:=ah
 have d:=(Bf hW).1;have one:∀k:Nat,(1:Int)<=10^k:=fun k=>by have:=Be (show(0:Int)<10 by decide) k;omega
 have l1:a<=a*10^W.length:=by have:=zi (one W.length) b;omega
 have e:a*10^n<=a*10^n*10^(W.drop n).length:=by
  have:=zi (one (W.drop n).length) (z8 b (show(0:Int)<=10^n by grind));omega
 grind
theorem CF[Srt](neg:Bool)(e D:Int)(d:D<(10:Int)^(6000:Nat))(m:∀ob,Q (.agg [.dat i64<|CP<|if neg=true then -D else D,.dat (.nlist u64)<|CO<|if neg=true then -D else D]) ob):∀(f:Nat) (W:Rd) (a:Int),W.length<f->W.length<=6000->0<=a->Ap W=true->a*10^W.length+AG 0 W=D->Ends Rn (L5 W neg (CP a) (CO a) e) Q
 |0,W,a,l,_,_,_,_=>by omega
 |f+1,W,a,l,k,b,hW,i=>by
  cases g:W with
  |nil=>
   have i:a=D:=by grind [AG]
   subst i;have h:=GS b d;refine zj (Fi ..) (zn (by simp)<|zk (fun c=>zc (B5 h).1<|zh ?_)<|fun c=>zh ?_)
   ·have:=Ade a b;have q:EB (CP a,CO a)=CP (-a):=wi Prod.fst this;have s:EC (CP a,CO a)=CO (-a):=wi Prod.snd this;grind
   grind
  |cons c t=>
   rw[<-g];have j:1<=W.length:=ah
   obtain⟨o,r,p⟩:=ZK (n:=min 18 W.length) b hW ae i;have u:=(Bf<|Bg hW<|min 18 W.length).1;have hp:0<=a*10^(min 18 W.length):=z8 b ah;refine AaW W neg _ _ e hW j _ rfl (Ct W neg _ _ e _ _ rfl hW rfl j a e b (by grind [GS]) (by grind [GS]) ?_ _ 0 rfl ae);exact CF neg e D d m f (W.drop<|min 18 W.length) _ ah ah ae (B0 hW _) o
theorem Ar[Srt](neg:Bool)(W:Rd)(g:W.length<=5999)(hW:Ap W=true)(h:∀ob,Q (.agg [.dat i64<|CP<|if neg=true then -AG 0 W else AG 0 W,.dat (.nlist u64)<|CO<|if neg=true then -AG 0 W else AG 0 W]) ob)(f:W=[]->∀ob v,(v=.agg [.dat i64 0,.nil]\/v=.agg [.dat i64<|EB ((0:Int),[]),.dat (.nlist u64)<|EC ((0:Int),[])])->Q v ob):Ends Rn (L1 W neg 0 0) Q:=by
 cases d:W with
 |nil=>
  refine zj (Al ..) (zn (by simp)<|zk (fun c=>zc af<|by simp_all)<|by simp_all)
 |cons c t=>
  rw[<-d];have e:1<=W.length:=ah
  have b:AG 0 W<(10:Int)^(6000:Nat):=zy (Bf hW).2 (AT af ae);obtain⟨i,l,j⟩:=ZK (a:=0) (n:=min 18 W.length) (D:=AG 0 W) ae hW ae ae;have k:=(Bf<|Bg hW<|min 18 W.length).1;refine wF W neg 0 0 hW e _ rfl (C9 W neg 0 0 _ _ rfl hW rfl e 0 0 rfl ae af (by rw[qt];decide) ?_ _ 0 rfl ae);exact CF neg 0 _ b h (W.length+1) (W.drop<|min 18 W.length) _ ah ah ae (B0 hW _) i
theorem ok[Srt]:Af A5 124 Qm:=by
 refine BG wH<|fun(s:Rd) a=>?_;have a:(decide (s.length<=5999)&&(if s.getD 0 0=45 then Ap (s.drop 1)else Ap s))=true:=a;rw[zl,w5]at a;obtain⟨l,a⟩:=a;have fin:∀D,Cw s=D->∀ob,Ad Qm s (.agg [.dat i64<|CP D,.dat (.nlist u64)<|CO D]) ob:=by
  rintro D rfl ob;exact yb rfl rfl rfl
 have b:Cw s=0->∀ob v,(v=.agg [.dat i64 0,.nil]\/v=.agg [.dat i64<|EB ((0:Int),[]),.dat (.nlist u64)<|EC ((0:Int),[])])->Ad Qm s v ob:=by
  rintro h ob v (rfl|rfl)
  ·refine yb rfl rfl ?_;show((0:Int),([]:List Int))=(CP<|Cw s,CO<|Cw s);rw[h];rfl
  ·refine yb rfl rfl ?_;show Dd ((0:Int),([]:List Int))=(CP<|Cw s,CO<|Cw s);rw[h];rfl
 refine zz (Ak s) ?_;conv=>zeta
 cases s with
 |nil=>
  refine zn af (zn af (zj (AL ..)<|zn af<|zh<|b rfl _ _ (.inl rfl)))
 |cons c r=>
  have i:(c::r).take 1=[c]:=rfl;have k:(c::r).getD 0 0=c:=rfl;rw[k]at a;have e:(qd 1 (c::r)).take (yi (c::r).length 1)=r:=by simp
  have g:decide (((c::r).length:Int)>=1)=true:=ah;have f:decide (1<=(c::r).length)=true:=(by rfl);rw[i,e];refine zc g<|zc f<|zc g<|zc f<|zk (fun d=>?_)<|fun d=>?_
  ·have j:c=45:=ah
   rw[wd j]at a;rw[d];have hr:Cw (c::r)= -AG 0 r:=by simp_all [Cw]
   refine zc (by simp) (Ar true r ah a ah<|fun h0=>b<|by rw[hr,h0];rfl)
  simp_all [Cw,Ar]
end T124
namespace T138
theorem loop[Srt]{Q:PV->Ob->Prop}(l:List Int)(e:l.length<=1000000):∀(r:List Int) (i:Nat),l.drop i=r->i<=l.length->Q (.dat i64<|qw r) []->Ends Oz (L1 l ((l.length:Int)) i) Q
 |[],i,h,k,a=>by
  refine zj (Al ..) ?_;conv=>zeta
  have:¬i<l.length:=by
   intro b;have:=List.drop_eq_getElem_cons b;rw[h]at this;cases this
  have f:i=l.length:=ae
  subst f;simpa [qw]using a
 |x::r,i,h,k,a=>by
  obtain⟨b,j,g⟩:=drop_cons (d:=0) h;refine zj (Al ..) ?_;conv=>zeta
  rw[Hk,wd (by simp;omega),Hk,wd (by simp;omega),Hk];simp only[zg,j];by_cases c:x=0
  ·subst c;rw[wc (by simp),wr _ ae ae];exact loop l e r (i+1) g b (by simpa [qw]using a)
  ·rw[wd<|by simpa using c];simpa [qw,c]using a
theorem ok[Srt]:Af A5 138 FR:=by
 refine BG EL<|fun l a=>?_;refine zz (Ak l) ?_;conv=>zeta
 exact loop l (by simpa [FR]using a) l 0 rfl (Nat.zero_le _) (yb rfl rfl rfl)
end T138
theorem T139.ok[Srt]:Af A5 139 Hd:=by
 refine BG EL<|fun⟨c,e⟩ _=>?_;refine zz (T139.Ak c e) ?_;conv=>zeta
 have key:∀x:Int,x=Cd c e->Ad Hd (c,e) (.dat i64 x) []:=fun x a=>yb rfl rfl a
 simp only[Hk,Ns];cases c
 ·exact key _ rfl
 ·exact key _ rfl
theorem Aam[Srt]:CL MD:=
 Aa T138.ok (Aa T139.ok<|Aa T136.ok<|Aa T123.ok<|Aa T137.ok<|Aa T140.ok<|Aa T124.ok<|Aa T76.ok<|Aa T77n.ok AI)
theorem HO{s:Rd}(h:AY s=true):s≠[]/\Ap s=true:=by
 unfold AY at h;rw[zl,zl,w5]at h;exact h.1
theorem Lw{s:Rd}(h:Ap s=true)(b:s.length<=5999):Em s=true/\Cw s=AG 0 s:=by
 have h0:s.getD 0 0≠45:=by
  cases s with
  |nil=>decide
  |cons c r=>
   unfold Ap at h;rw[qo,zl]at h;have:=Fa h.1;rintro a;have a:c=45:=a;subst a;exact wh this af
 unfold Em Cw;rw[wc h0,wc h0,h,Bool.and_true];exact⟨w4 b,rfl⟩
theorem Acd{a b L:Int}(c:0<=a)(f:0<=b)(g:a<L)(d:b<L):0<=qc a b/\qc a b<L:=by
 rw[Gk];obtain⟨x,rfl⟩:=yg c;obtain⟨y,rfl⟩:=yg f;have e:Int.gcd (x:Int) (y:Int)=Nat.gcd x y:=rfl;rw[e];refine⟨Int.natCast_nonneg _,?_⟩;rcases Nat.eq_zero_or_pos x with h|h
 ·subst h;rw[Nat.gcd_zero_left];exact d
 ·have:=Nat.gcd_le_left y h;omega
namespace T89
def E(A B:Rd)(b a:Bool):Int:=if a=false then 1 else if 600<A.length\/600<B.length then 4 else if b=true/\qc (AG 0 A) (AG 0 B)≠1 then 1 else 0
theorem FG[Srt](A B:Rd)(a:Bool)(l:Ap A=true)(b:a=true->Ap B=true)(z:A.length<=600)(y:B.length<=600)(e:∀ob,Q (.dat i64<|if a=true/\qc (AG 0 A) (AG 0 B)≠1 then 1 else 0) ob):Ends MD (L8 A B a) Q:=by
 refine zj (Kg ..)<|zk (fun c=>?_)<|fun c=>?_
 ·have b:=b c;obtain⟨w,i⟩:=Lw l ae;obtain⟨r3,r4⟩:=Lw b ae;have f:=Bf l;have d:=Bf b;have k:AG 0 A<(10:Int)^(6000:Nat):=zy f.2 (AT af ae);have j:AG 0 B<(10:Int)^(6000:Nat):=zy d.2 (AT af ae);have t:Di A=CP (AG 0 A):=by unfold Di;rw[i]
  have m:Dk A=CO (AG 0 A):=by unfold Dk;rw[i]
  have o:Di B=CP (AG 0 B):=by unfold Di;rw[r4]
  have v:Dk B=CO (AG 0 B):=by unfold Dk;rw[r4]
  have u:NJ (CP<|AG 0 A,CO<|AG 0 A) (CP<|AG 0 B,CO<|AG 0 B)=CP (qc (AG 0 A)<|AG 0 B):=by
   unfold NJ;rw[LB,LB]
  have s:NS (CP<|AG 0 A,CO<|AG 0 A) (CP<|AG 0 B,CO<|AG 0 B)=CO (qc (AG 0 A)<|AG 0 B):=by
   unfold NS;rw[LB,LB]
  obtain⟨l1,p⟩:=Acd f.1 d.1 k j;have r:dV (CP<|qc (AG 0 A)<|AG 0 B,CO<|qc (AG 0 A)<|AG 0 B) ((1:Int),Bo (1:Int))=Cp (qc (AG 0 A)<|AG 0 B) 1:=by
   unfold dV;rw[LB,EM,Fm]
  rw[t,m,o,v,u,s,r];have x:A9 ((1:Int),Bo (1:Int))=true:=by rw[EM];decide
  refine zc w<|zc r3<|zc (Ac (Gs<|GS f.1 k)<|Gs<|GS d.1 j)<|zc rfl (zc (Ac (Gs<|GS l1 p) x) ?_);refine zj (Ae9 ..)<|zc rfl (zh ?_);generalize qc (AG 0 A) (AG 0 B)=g at*;have:Cd (Cp g 1 !=0) 1=if a=true/\g≠1 then 1 else 0:=by
   unfold Cp Cd;by_cases h:g=1
   ·subst h;rw[c];rfl
   ·have n:(if a=true/\g≠1 then(1:Int)else 0)=1:=wd ⟨c,h⟩;rw[n];rcases Int.lt_or_gt_of_ne h with q|q
    ·rw[wd q];rfl
    ·rw[wc ae,wd q];rfl
  rw[this];exact e _
 ·refine zj Adw<|zc rfl (zh ?_);rw[wc<|by rw[c];simp]at e;exact e _
theorem Ct[Srt](A B:Rd)(e a c d:Bool)(j:c= !a)(f:d=true↔600<A.length\/600<B.length)(l:a=true->Ap A=true/\(e=true->Ap B=true))(b:∀ob,Q (.dat i64<|E A B e a) ob):Ends MD (L7 A B e<|qw [Cd c 1,Cd d 4]) Q:=by
 subst j;unfold E at b;cases a with
 |false=>
  refine zj (GQ ..)<|zc ?_<|zh<|b _;cases d<;>rfl
 |true=>
  rw[wc af]at b;cases d with
  |true=>
   rw[wd<|f.1 rfl]at b;exact zj (GQ ..)<|zc rfl (zh<|b _)
  |false=>
   have i:¬(600<A.length\/600<B.length):=fun h=>by have:=f.2 h;cases this
   rw[wc i]at b;obtain⟨k,g⟩:=l rfl;exact zj (GQ ..) (zn rfl (FG A B e k g ae ae b))
theorem B2[Srt](A B:Rd)(b a:Bool)(e:a=true->Ap A=true/\(b=true->Ap B=true))(d:∀ob,Q (.dat i64<|E A B b a) ob):Ends MD (L4 A B b a) Q:=by
 refine zj (BU ..)<|zc rfl (zk (fun c=>zc rfl (zc rfl ?_))<|fun c=>zc rfl (zc rfl ?_))
 ·have c:=w6 c;exact Ct A B b a _ _ rfl ⟨fun _=>.inl ae,fun _=>rfl⟩ e d
 ·have c:=w7 c;exact Ct A B b a _ _ rfl ⟨fun h=>.inr (by have:=w6 h;omega),fun h=>w4 ae⟩ e d
theorem CF[Srt](A B:Rd)(a:Bool)(b:∀ob,Q (.dat i64<|E A B a false) ob):Ends MD (L5 A B a) Q:=by
 refine zj (Fi ..)<|zc rfl (zk (fun c=>zc rfl (zc rfl ?_))<|fun c=>zc rfl (zc rfl ?_))
 ·have c:=w6 c;exact Ct A B a false _ _ rfl ⟨fun _=>.inl ae,fun _=>rfl⟩ (fun h=>by cases h) b
 ·have c:=w7 c;exact Ct A B a false _ _ rfl ⟨fun h=>.inr (by have:=w6 h;omega),fun h=>w4 ae⟩ (fun h=>by cases h) b
theorem EO[Srt](A B:Rd)(a:Bool)(d:Ap A=true/\(a=true->Ap B=true))(b:∀ob,Q (.dat i64<|E A B a true) ob):Ends MD (L6 A B a) Q:=by
 refine zj (GG ..)<|zc rfl (zk (fun c=>zc rfl (zc rfl ?_))<|fun c=>zc rfl (zc rfl ?_))
 ·have c:=w6 c;exact Ct A B a true _ _ rfl ⟨fun _=>.inl ae,fun _=>rfl⟩ (fun _=>d) b
 ·have c:=w7 c;exact Ct A B a true _ _ rfl ⟨fun h=>.inr (by have:=w6 h;omega),fun h=>w4 ae⟩ (fun _=>d) b
theorem WN[Srt]{F:Tr}(A B:Rd)(f:Bool)(j:B.length<=1000000)(k:Ap A=true)(a:Bool)(b:a=(!f||(AY B&&decide (B≠[48])&&decide (B≠[49]))))(g:∀ob,Q (.dat i64<|E A B f a) ob)
  (h:(f=true->Ends MD (.ite (decide (B.length<=1000000)) (.ite (AY B) (.ite (!B==[(48:UInt8)]) (L4 A B f<|!B==[(49:UInt8)])<|L5 A B f)<|L5 A B f) .fail) Q)->(f=false->a=true)->Ends MD F Q):Ends MD F Q:=by
 refine h (fun i=>zc (w4 j) ?_) (fun i=>by rw[b,i];rfl);rw[i]at b;refine zk (fun c=>zk (fun d=>?_)<|fun d=>?_)<|fun c=>?_
 ·have d:B≠[48]:=by simpa using d
  have e:a=(!B==[(49:UInt8)]):=by
   rw[b,c,w4 d];by_cases h:B=[49]
   ·rw[h];rfl
   ·rw[w4 h];simp[h]
  rw[<-e];exact B2 A B f a (fun _=>⟨k,fun _=>(HO c).2⟩) g
 ·have d:B=[48]:=by simpa using d
  have e:a=false:=by rw[b,w8<|fun h=>h d];simp
  rw[e]at g;exact CF A B f g
 ·have e:a=false:=by rw[b,c];simp
  rw[e]at g;exact CF A B f g
theorem Ew(s:Rd):(AF s).length<=s.length/\(zw s).length<=s.length:=by
 unfold AF zw;cases s.findIdx? (fun x=>x==47)with
 |none=>simp
 |some i=>simp;omega
theorem aH(s:Rd):(A2 s).length<=s.length:=by
 unfold A2;split
 ·simp
 ·exact yr _
theorem ok[Srt]:Af A5 89 FL:=by
 refine BG Aam<|fun(a:Rd) m=>?_;have m:a.length<=1000000:=w6 m;have l1:=aH a;obtain⟨r,s⟩:=Ew<|A2 a;have j:∀b,b=GH a->∀ob,Ad FL a (.dat i64<|E (AF<|A2 a) (zw<|A2 a) (BF<|A2 a) b) ob:=by
  rintro b rfl ob;exact yb rfl rfl rfl
 have i:GH a=(AY (AF<|A2 a)&&(!qm a||decide (AF (A2 a)≠[48]))&&(!BF (A2 a)||(AY (zw<|A2 a)&&decide (zw (A2 a)≠[48])&&decide (zw (A2 a)≠[49])))):=rfl;refine zz (Ak a) (zc (Ac (w4 rfl)<|w4 m) (zc (Ac (w4 rfl)<|w4 ae) (zc (w4 ae) ?_)));generalize AF (A2 a)=A at*;generalize zw (A2 a)=B at*;generalize BF (A2 a)=f at*;refine zk (fun c=>?_)<|fun c=>?_
 ·have l:=(HO c).2;refine zk (fun d=>?_)<|fun d=>?_
  ·have g:GH a=(!f||(AY B&&decide (B≠[48])&&decide (B≠[49]))):=by rw[i,c,d];rfl
   refine WN A B f ae l (GH a) g (j _ rfl)<|fun n p=>zj (Al ..)<|zk n<|fun e=>?_;have o:=p e;exact EO A B f ⟨l,fun h=>by rw[e]at h;cases h⟩<|j true o.symm
  ·by_cases k:A=[48]
   ·have g:GH a=false:=by rw[i,d,w8<|fun h=>h k];simp
    have q:(!A==[(48:UInt8)])=false:=by rw[k];rfl
    rw[q];refine zj (AL ..) (zk (fun e=>zn rfl (CF A B f<|j false g.symm))<|fun e=>B2 A B f false (fun h=>by cases h)<|j false g.symm)
   ·have q:(!A==[(48:UInt8)])=true:=by simp[k]
    have g:GH a=(!f||(AY B&&decide (B≠[48])&&decide (B≠[49]))):=by rw[i,c,d,w4 k];rfl
    rw[q];refine WN A B f ae l (GH a) g (j _ rfl)<|fun n p=>zj (AL ..)<|zk (fun e=>zc rfl (n e))<|fun e=>?_;have o:=p e;exact B2 A B f true (fun _=>⟨l,fun h=>by rw[e]at h;cases h⟩)<|j true o.symm
 ·have g:GH a=false:=by rw[i,c];simp
  exact zj (BT ..)<|zk (fun e=>CF A B f<|j false g.symm)<|fun e=>CF A B f<|j false g.symm
end T89
theorem D3(c:UInt8)(r:Rd):AF (c::r)=if c=47 then[]else c::AF r:=by
 unfold AF;grind
namespace T100
theorem Ar[Srt]{Q:PV->Ob->Prop}(s:Rd)(e:s.length<=9223372036854775807):∀(r:Rd) (i:Nat),s.drop i=r->i<=s.length->(∀ob,Q (.dat i64 (((i+(AF r).length:Nat)):Int)) ob)->Ends Oz (L1 s i) Q
 |[],i,h,b,a=>by
  have g:i=s.length:=drop_nil h b;subst g;exact zj (Al ..) (zn (by simp)<|zh<|a _)
 |c::r,i,h,b,a=>by
  obtain⟨f,l,k⟩:=drop_cons (d:=0) h;have m:zf .i64 ((i:Int)+1)=((i+1:Nat):Int):=by grind [wr]
  rw[D3]at a;refine zj (Al ..) (zc ah ?_);rw[zg,l,m];refine zc ah<|zk (fun d=>?_)<|fun d=>?_
  ·have j:c=47:=by
    exact ye.1 ah
   simp_all
  ·have j:c≠47:=by rintro rfl;grind
   refine Ar s e r (i+1) k f<|fun ob=>?_;grind
theorem ok[Srt]:Af A5 100 P0:=by
 refine BG EL<|fun(s:Rd) a=>?_;have a:s.length<=1000000:=w6 a;refine zz (Ak s) (Ar s ae s 0 rfl ae (fun ob=>yb rfl rfl ?_));rw[qf];rfl
theorem uS[Srt]:Af A5 100 bN:=by
 refine BG EL<|fun(s:Rd) a=>?_;have a:s.length<=9223372036854775807:=w6 a;refine zz (Ak s) (Ar s a s 0 rfl ae (fun ob=>yb rfl rfl ?_));rw[qf];rfl
end T100
namespace T101
theorem Vv{s:Rd}{r:Rd}{c:UInt8}{i:Nat}(h:s.drop i=c::r):Ap (s.drop i)=(BN c&&Ap (s.drop<|i+1)):=by
 obtain⟨_,_,a⟩:=drop_cons (d:=0) h;rw[a,h];rfl
theorem Ar[Srt](s:Rd)(g:s.length<=9223372036854775807):∀(r:Rd) (i:Nat),s.drop i=r->i<=s.length->(∀ob,Q (.bl<|Ap<|s.drop i) ob)->Ends Oz (L1 s s i) Q
 |[],i,h,f,a=>by
  have k:i=s.length:=drop_nil h f;rw[h]at a;subst k;exact zj (Al ..) (zn (by simp)<|zh<|a _)
 |c::r,i,h,f,a=>by
  obtain⟨j,m,l⟩:=drop_cons (d:=0) h;have n:zf .i64 ((i:Int)+1)=((i+1:Nat):Int):=by grind [wr]
  rw[Vv h]at a;refine zj (Al ..) (zc ah ?_);rw[zg,m,n];refine zc ah (zk (fun d=>?_) (fun d=>zc ah<|zk (fun e=>?_)<|fun e=>?_))
  ·grind [BN,zh]
  ·have b:BN c=false:=by unfold BN;grind
   simp_all
  ·have b:BN c=true:=by grind [BN]
   rw[b,yn]at a;exact Ar s g r (i+1) l j a
theorem A1[Srt](s:Rd)(g:s.length<=9223372036854775807):∀(r:Rd) (i:Nat),s.drop i=r->i<=s.length->(∀ob,Q (.bl<|Ap<|s.drop i) ob)->Ends Oz (L2 s s i) Q
 |[],i,h,f,a=>by
  have k:i=s.length:=drop_nil h f;rw[h]at a;subst k;exact zj (AL ..) (zn (by simp)<|zh<|a _)
 |c::r,i,h,f,a=>by
  obtain⟨j,m,l⟩:=drop_cons (d:=0) h;have n:zf .i64 ((i:Int)+1)=((i+1:Nat):Int):=by grind [wr]
  rw[Vv h]at a;refine zj (AL ..) (zc ah ?_);rw[zg,m,n];refine zc ah (zk (fun d=>?_) (fun d=>zc ah<|zk (fun e=>?_)<|fun e=>?_))
  ·grind [BN,zh]
  ·have b:BN c=false:=by unfold BN;grind
   simp_all
  ·have b:BN c=true:=by grind [BN]
   rw[b,yn]at a;exact A1 s g r (i+1) l j a
theorem uS[Srt]:Af A5 101 SV:=by
 refine BG EL<|fun(s:Rd) a=>?_;have a:s.length<=9223372036854775807:=w6 a;have f:∀b ob,b=AY s->Ad SV s (.bl b) ob:=fun b ob i=>yb rfl rfl i
 refine zz (Ak s) ?_;conv=>zeta
 cases s with
 |nil=>exact zc rfl (zh<|f _ _ rfl)
 |cons c r=>
  have h:(c::r).getD 0 0=c:=rfl;rw[h];refine zn (by rfl) (zk (fun d=>zc (by simp)<|zk (fun e=>zh<|f _ _ ?_)<|fun e=>?_)<|fun d=>?_)
  ·have g:c=48:=by
    exact ye.1 ah
   grind [AY]
  ·have g:c≠48:=by rintro rfl;grind
   refine Ar (c::r) a (c::r) 0 rfl ae (fun ob=>f _ _ ?_);grind [AY]
  ·have hr:r=[]:=by
    grind
   subst hr;refine A1 [c] a [c] 0 rfl ae (fun ob=>f _ _ ?_);grind [AY]
end T101
theorem Aay[Srt]:CL XK2:=Aa T110.ok AI
namespace T99
theorem Q6{v:Int}(a: -9223372036854775808<=v/\v<9223372036854775808):∃q d:Nat,Ah v=d+1000000000*q/\d<1000000000/\zf .i64 (yw v 1000000000)=(if v<0 then -(q:Int)else q)/\qj v 1000000000=(if v<0 then -(d:Int)else d):=by
 refine⟨v.natAbs/1000000000,v.natAbs % 1000000000,by rw[Aj];omega,by omega,?_,?_⟩
 ·by_cases h:v<0
  ·have:=Int.neg_tdiv (-v) 1000000000;rw[Int.neg_neg]at this;rw[this,zt ae,wd h,wr _ ae ae];omega
  ·rw[zt ae,wc h,wr _ ae ae];omega
 ·by_cases h:v<0
  ·have:=Int.neg_tmod (-v) 1000000000;grind
  grind
theorem A1[Srt](neg:Bool)(D:Int)(n:∀(w:List Int) ob,Az zd w->ze zd w=D->Q (.agg [.dat .bool<|CY neg w,.dat li<|AB w]) ob):∀(f:Nat) (v:Int) (o1:List Int),Ah v<f->(-9223372036854775808<=v/\v<9223372036854775808)->o1.length<=100->(Ah v≠0->Ah v*1000000000^o1.length<=9223372036854775808)->Az zd o1->ze zd o1+(zd:Int)^o1.length*Ah v=D->Ends XK2 (L2 v o1.length neg o1) Q
 |0,v,o1,j,e,m,k,a,l=>by
  have:=AM v;omega
 |f+1,v,o1,j,e,m,k,a,l=>by
  obtain⟨q,d,s1,s2,s3,s4⟩:=Q6 e;by_cases h0:v=0
  ·subst h0;have p:Ah 0=0:=rfl;refine zj (AL ..)<|zn rfl ?_;grind [zc,zh]
  ·have h:Ah v≠0:=by rw[Aj];omega
   have b:o1.length<=10:=by
    rcases Nat.lt_or_ge 10 o1.length with g|g
    ·have i:(1000000000:Int)^11<=1000000000^o1.length:=AT af g;have o:=zq (show 1<=Ah v by omega) (show(0:Int)<=1000000000^o1.length by omega);omega
    omega
   have eq:Ah (if v<0 then -(q:Int)else q)=q:=by grind [Aj]
   have go:Ends XK2 (L2 (if v<0 then -(q:Int)else q) (qv o1.length 1) neg<|o1++[(d:Int)]) Q:=by
    have:=A1 neg D n f (if v<0 then -(q:Int)else q) (o1++[(d:Int)]) ae (by grind [Aj]) ah (fun _=>by
     rw[eq,zx];show(q:Int)*1000000000^(o1.length+1)<=_;rw[yp, <-y8,Int.mul_right_comm];have i:=zq (show(q:Int)*1000000000<=Ah v by omega) (show(0:Int)<=1000000000^o1.length from ah);omega) (Fy a ae) (by
     rw[eq,Cm,zx];show ze zd o1+(zd:Int)^o1.length*(d:Int)+(zd:Int)^(o1.length+1)*(q:Int)=D;grind)
    grind
   refine zj (AL ..) (zc ah<|zc rfl ?_);refine zk (fun c=>zc ah<|zc rfl ?_) (fun c=>zc ah<|zc rfl ?_)
   ·have r:zf .i64 (0 - -(d:Int))=(d:Int):=by grind [wr]
    grind
   grind
theorem ok[Srt]:Af A5 99 Jw:=by
 refine BG Aay<|fun(v:Int) a=>?_;have a:=ET (n:=v) a;have fin:∀(w:List Int) ob,Az zd w->ze zd w=Ah v->Ad Jw v (.agg [.dat .bool<|CY (decide (v<0)) w,.dat li<|AB w]) ob:=by
  intro w ob f g;refine yb rfl rfl ?_;have:=My (neg:=decide (v<0)) f g;have e:(if decide (v<0)=true then -Ah v else Ah v)=v:=by
   rw[Aj];grind
  rw[e]at this;exact this
 obtain⟨q,d,s1,s2,s3,s4⟩:=Q6 a;refine zz (Ak v) ?_;conv=>zeta
 by_cases h0:v=0
 ·subst h0;exact zj (Al ..) (zn rfl (zc rfl (zh<|fin [] _ (fun x b=>by cases b) rfl)))
 ·have eq:Ah (if v<0 then -(q:Int)else q)=q:=by grind [Aj]
  have go:Ends XK2 (L2 (if v<0 then -(q:Int)else q) 1 (decide (v<0)) [(d:Int)]) (Ad Jw v):=by
   refine A1 (decide (v<0)) (Ah v) fin (q+1) _ [(d:Int)] ae (by grind [Aj]) (by simp) (fun _=>?_) (fun x b=>by grind) ?_
   ·grind [Aj]
   grind [Eu]
  refine zj (Al ..) (zc ah<|zc rfl ?_);refine zk (fun c=>zc rfl (zc rfl ?_))<|fun c=>zc rfl (zc rfl ?_)
  ·have h:zf .i64 (0 - -(d:Int))=(d:Int):=by grind [wr]
   grind
  grind
end T99
theorem wN[Srt]:CL XK3:=Aa T100.ok<|Aa T107.ok<|Aa T99.ok AI
theorem BQ:∀(s:Rd),AF s=s.take (AF s).length/\(BF s=true->(AF s).length<s.length/\zw s=s.drop ((AF s).length+1))/\(BF s=false->AF s=s/\zw s=[])
 |[]=>⟨rfl,(fun h=>(by cases h)),fun _=>⟨rfl,rfl⟩⟩
 |c::r=>by
  obtain⟨d,f,e⟩:=BQ r;have a:zw (c::r)=if c=47 then r else zw r:=by
   unfold zw;grind
  have b:BF (c::r)=(decide (c=47)||BF r):=by
   rfl
  rw[D3,a,b];grind
theorem T48.ok[Srt]:Af A5 48 TY:=by
 refine BG wN<|fun(a:Rd) b=>?_;have b:(Em (AF a)&&Em (zw a)&&decide (a.length<=5999))=true:=b;rw[zl,zl,w5]at b;obtain⟨⟨e,j⟩,k⟩:=b;obtain⟨c1,c2,c3⟩:=BQ a;have es:A4 a=((AF a).length:Int):=rfl;refine zz (T48.Ak a) (zc ah<|zk (fun c=>?_)<|fun c=>?_)
 ·have d:BF a=false:=by
   grind
  obtain⟨f,g⟩:=c3 d;rw[f]at e;refine zc e<|zc rfl (zh<|yb rfl rfl ?_);show((HQ a,H5 a),(false,Sp.rW 1))=((BV a,BM a),(BC a,Br a));unfold BV BM BC Br Bi AX HQ H5;rw[f,d];rfl
 ·have d:BF a=true:=by
   grind
  obtain⟨f,g⟩:=c2 d;have h:zf .i64 (((AF a).length:Int)+1)=(((AF a).length+1:Nat):Int):=by grind [wr]
  have i:(a.drop<|(AF a).length+1).take (yi a.length<|(AF a).length+1)=a.drop ((AF a).length+1):=zm (by simp);rw[es,h,zg,zg,i, <-c1, <-g];refine zc ah (zc ah<|zc e<|zc j<|zh<|yb rfl rfl ?_);show((HQ<|AF a,H5<|AF a),(HQ<|zw a,H5<|zw a))=((BV a,BM a),(BC a,Br a));grind [BV,BM,BC,Br,Bi,AX,HQ,H5]
theorem aF[Srt]:CL W1:=Aa T100.uS (by grind [Aa,T101.uS,T48.ok,T102.ok,Mw])
namespace T40
theorem xB{g:Int}(h0:0<=g):B7 g=[1]↔g=1:=by
 constructor
 ·intro h;have:=C2 (b:=zd) af h0;have h:Sp.dg zd g=[1]:=h;rw[h]at this;rw[<-this];rfl
 ·rintro rfl;rfl
theorem B2[Srt](s:Rd)(o:Ap (AF s)=true)(b:BF s=true->Ap (zw s)=true)(r:(AF s).length<=600)(q:(zw s).length<=600)(z:s.length<=5999)
  (a:∀ob,Q (.dat i64<|if BF s=true/\qc (AG 0<|AF s) (AG 0<|zw s)≠1 then 1 else 0) ob):Ends W1 (L4 s<|A4 s) Q:=by
 obtain⟨A,C,E⟩:=BQ s;have es:A4 s=((AF s).length:Int):=rfl;refine zj (BU ..) ?_;conv=>zeta
 refine zk (fun c=>?_)<|fun c=>?_
 ·have f:BF s=true:=by
   grind
  have b:=b f;obtain⟨F,B⟩:=Lw o ae;obtain⟨r3,r4⟩:=Lw b ae;have j:=Bf o;have i:=Bf b;have l:∀k:Nat,(10:Int)^k<=(zd:Int)^k:=by
   intro k;induction k with
   |zero=>simp
   |succ k D=>
    grind
  have n:AG 0 (AF s)<(zd:Int)^600:=zy j.2 (Int.le_trans (l _)<|AT af r);have m:AG 0 (zw s)<(zd:Int)^600:=zy i.2 (Int.le_trans (l _) (AT af q));have y:BM s=B7 (AG 0<|AF s):=by
   grind [BM,Bi,Sp.rW,Aj]
  have p:Br s=B7 (AG 0<|zw s):=by
   unfold Br AX Sp.rW;rw[wd f,r4,show Ah (AG 0<|zw s)=AG 0 (zw s)by rw[Aj];omega]
  obtain⟨n1,_,v1,l1⟩:=Ho (k:=600) j.1 n af;obtain⟨n2,_,v2,l2⟩:=Ho (k:=600) i.1 m af;have rat:Dc s=true:=by
   grind [Dc]
  rw[y,p];refine zc rat (zj (Fi ..)<|zc ah ?_);have v:Cs (B7<|AG 0<|AF s) (B7<|AG 0<|zw s)=B7 (qc (AG 0<|AF s)<|AG 0<|zw s):=by
   grind [Cs]
  rw[v];obtain⟨u,_⟩:=Acd j.1 i.1 n m;generalize qc (AG 0<|AF s) (AG 0<|zw s)=g at*;have w:=xB u;by_cases h:g=1
  ·rw[wc ae]at a;rw[w.2 h];exact zj (GG ..)<|zn rfl (zc rfl (zn rfl (zh<|a _)))
  ·rw[wd ⟨f,h⟩]at a;have e:B7 g≠[1]:=ah;refine zj (GG ..)<|zk (fun d=>zh<|a _)<|fun d=>?_;have d:(B7 g).length=1:=by
    grind
   obtain⟨x,t⟩:=qg.1 d;rw[t]at e ⊢;exact zc rfl (by grind [zc,zh])
 ·rw[wc ah]at a;exact zh<|a _
theorem A1[Srt](s:Rd)(m:Ap (AF s)=true)(h:s.length<=9223372036854775807)(a:∀ob,Q (.dat i64<|T89.E (AF s) (zw s) (BF s)<|!BF s||(AY (zw s)&&decide (zw s≠[48])&&decide (zw s≠[49]))) ob):Ends W1 (L2 s<|A4 s) Q:=by
 obtain⟨k,l,o⟩:=BQ s;have es:A4 s=((AF s).length:Int):=rfl;have g:=T89.Ew s;have big:(BF s=true->Ap (zw s)=true)->(∀ob,Q (.dat i64<|T89.E (AF s) (zw s) (BF s) true) ob)->Ends W1 (L3 s<|A4 s) Q:=by
  intro j a;unfold T89.E at a;rw[wc af]at a;have b:s.length=(AF s).length+(if BF s=true then 1+(zw s).length else 0):=by
   grind
  refine zj (BT ..) ?_;conv=>zeta
  rw[es,wr ((s.length:Int)-((AF s).length:Int)) ae ae,wr _ ae ae];refine zk (fun c=>?_)<|fun c=>zk (fun d=>?_)<|fun d=>?_
  ·have c:=w6 c;rw[wd<|ae]at a;exact zh<|a _
  ·have:600<(zw s).length:=ah
   rw[wd<|.inr this]at a;exact zh<|a _
  ·grind [B2]
 refine zj (AL ..) ?_;conv=>zeta
 cases i:BF s with
 |false=>
  grind [zn]
 |true=>
  have n:zf .i64 (((AF s).length:Int)+1)=(((AF s).length+1:Nat):Int):=by grind [wr]
  have bad:(!true||(AY (zw s)&&decide (zw s≠[48])&&decide (zw s≠[49])))=false->∀ob,Q (.dat i64 1) ob:=by
   grind [T89.E]
  refine zc ah (zc ah<|zc ah<|zk (fun d=>zh<|bad ?_ _)<|fun d=>zc ah (zk (fun e=>zh<|bad ?_ _)<|fun e=>zc ah<|zk (fun f=>zh<|bad ?_ _)<|fun f=>?_))
  ·grind
  ·grind
  ·grind
  grind [HO]
theorem Ar[Srt](a s:Rd)(g:s=A2 a)(j:a.length<=9223372036854775807)(n:∀ob,Q (.dat i64<|Av a) ob):Ends W1 (L1 a s) Q:=by
 obtain⟨c,k,o⟩:=BQ s;have es:A4 s=((AF s).length:Int):=rfl;have i:s.length<=a.length:=by grind [T89.aH]
 have l:Av a=T89.E (AF s) (zw s) (BF s) (AY (AF s)&&(!qm a||decide (AF s≠[48]))&&(!BF s||(AY (zw s)&&decide (zw s≠[48])&&decide (zw s≠[49])))):=by rw[g];rfl
 have tk:s.take (AF s).length=AF s:=c.symm;refine zj (Al ..) ?_;conv=>zeta
 rw[show A4 s=((AF s).length:Int)from rfl,zg,tk];refine zc ah (zc ah<|zc ah<|zk (fun d=>?_)<|fun d=>?_)
 ·grind [zh,T89.E]
 ·have d:AY (AF s)=true:=ah
  have m:=(HO d).2;have b:a.length≠0:=by
   grind [AY]
  refine zc ah (zk (fun e=>zc ah<|zk (fun f=>?_)<|fun f=>?_)<|fun e=>?_)
  ·have hp:qm a=true:=by
    refine w4<|ye.1 ?_;grind
   grind [zh,T89.E]
  ·grind [A1]
  ·have hp:qm a=false:=by
    refine w8<|fun h=>?_;rw[h]at e;grind
   grind [A1]
theorem uS[Srt]:Af A5 40 Tw:=by
 refine BG aF<|fun(a:Rd) b=>?_;have b:a.length<=9223372036854775807:=w6 b;have g:∀ob,Ad Tw a (.dat i64<|Av a) ob:=fun ob=>yb rfl rfl rfl
 refine zz (Ak a) ?_;conv=>zeta
 cases a with
 |nil=>exact zn rfl (Ar [] [] rfl b g)
 |cons c r=>
  have f:(c::r).getD 0 0=c:=rfl;rw[f];refine zc (by simp) (zc (by simp)<|zk (fun d=>zc (by simp) ?_)<|fun d=>?_)
  ·have e:c=45:=by
    exact ye.1 ah
   simp_all [Ar,A2]
  ·have e:c≠45:=by rintro rfl;grind
   simp_all [Ar,A2]
theorem ok[Srt]:Af A5 40 FL:=by
 refine BG aF<|fun(a:Rd) f=>?_;have f:a.length<=1000000:=w6 f;have b:∀ob,Ad FL a (.dat i64<|Av a) ob:=fun ob=>yb rfl rfl rfl
 refine zz (Ak a) ?_;conv=>zeta
 cases a with
 |nil=>exact zn rfl (Ar [] [] rfl ae b)
 |cons c r=>
  have h:(c::r).getD 0 0=c:=rfl;rw[h];refine zc (by simp) (zc (by simp)<|zk (fun d=>zc (by simp) ?_)<|fun d=>?_)
  ·have g:c=45:=by
    exact ye.1 ah
   have e:(qd 1 (c::r)).take (yi (c::r).length 1)=r:=by simp
   rw[e];exact Ar (c::r) r (by simp_all [A2]) ae b
  ·have g:c≠45:=by rintro rfl;grind
   exact Ar (c::r) (c::r) (by simp_all [A2]) ae b
end T40
end Go.Pe
