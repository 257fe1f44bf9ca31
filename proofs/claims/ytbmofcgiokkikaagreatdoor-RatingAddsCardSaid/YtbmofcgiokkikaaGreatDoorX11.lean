import Derived.Test.YtbmofcgiokkikaaGreatDoorX10
/- A part of a proof; no law is stated here. -/
open Go.Pe.Ends renaming tt -> zc, leaf -> zj, Ah -> zl, ite -> zm, ff -> zo, eq -> zr
open Go.Sp renaming B9 -> zd, val -> ze, vI -> zu, Bb -> z6, gI -> qc, preB -> qk, first -> qo, Ce -> qp
open Go.IntKind renaming wrap -> zf
open Int renaming toNat_natCast -> zh, mul_le_mul_of_nonneg_left -> zk, mul_le_mul_of_nonneg_right -> zt, lt_of_lt_of_le -> zz, le_of_lt -> z8, mul_comm -> ya, mul_nonneg -> yc, mul_add -> yd, mul_lt_mul_of_pos_right -> ye, eq_ofNat_of_zero_le -> yj, tdiv_eq_ediv_of_nonneg -> yn, pow_succ -> yo, lt_of_mul_lt_mul_left -> yp, lt_or_le -> yv, emod_lt_of_pos -> yw, one_mul -> yy, mul_assoc -> y7, tdiv -> y9, emod_nonneg -> qh, tmod -> qj, add_assoc -> ql, gcd -> qq
open Bool renaming and_eq_true -> zi, true_and -> yk, eq_iff_iff -> qi
open List renaming take_of_length_le -> zn, length_drop -> zp, replicate -> zq, length_take -> z7, length_append -> yb, take_length -> yf, take_append_drop -> yg, dropWhile_cons -> yi, length_eq_zero_iff -> yq, dropLast_concat_getLast -> yt, mem_cons -> yz, all_eq_true -> y8, drop -> qd, all_reverse -> qe, length_eq_one_iff -> qg, all_cons -> qm
open Go.Pe.Ac renaming of -> zy
open UInt8 renaming toNat_inj -> yh
open Nat renaming sub -> ym, le_refl -> yr, min_eq_left -> yu, add_sub_cancel -> yx, zero_add -> qf, add -> qn
namespace Go.Sp
theorem RC{l:List Int}(h:Lz l=true):l.length<=20000/\AD B9 l:=by
 unfold Lz at h;rw[zi,w5,y8]at h;exact⟨h.1,fun d a=>by
  grind⟩
theorem ND{l:List Int}(a:l.length<=20000)(b:AD B9 l):Lz l=true:=by
 unfold Lz;rw[zi,w5,y8];exact⟨a,fun d c=>by
  have:=b d c;grind⟩
theorem Adr{l:List Int}(h:hR l=true):l.length<=9000/\AD B9 l:=by
 unfold hR at h;grind [RC]
theorem fW{l:List Int}(b:l.length<=9000)(a:AD B9 l):hR l=true:=by
 unfold hR;rw[ND ae a,yk];grind
theorem BB{l:List Int}(h:Bh l=true):l.length<=20000/\AD B9 l/\nz l:=by
 unfold Bh at h;rw[zi]at h;have:=RC h.1;exact⟨this.1,this.2,by
  have:=h.2;unfold nzW at this;have:l.getLast?≠some 0:=ah;exact this⟩
theorem vC{l:List Int}(b:l.length<=20000)(c:AD B9 l)(a:nz l):Bh l=true:=by
 unfold Bh nzW;rw[ND b c,yk];exact w4 a
theorem HV{l:List Int}(h:AD B9 l)(i:Nat):0<=l.getD i 0/\l.getD i 0<1000000000:=LF af h i
theorem Gs{l:List Int}{x:Int}(h:AD B9 l)(a:0<=x/\x<1000000000):AD B9 (l++[x]):=(by grind [AD])
theorem CH(l:List Int)(x:Int):val B9 (l++[x])=val B9 l+(B9:Int)^l.length*x:=by
 grind [Dm,val]
theorem Nx(i:Nat)(c:Int):(B9:Int)^(i+1)*c=(B9:Int)^i*(1000000000*c):=by
 grind
theorem F8{l:List Int}(h:AD B9 l):AE l=B0 (Ar l):=fU af h
theorem Qn{n:Int}{k:Nat}(_:0<=n)(h:n<(B9:Int)^k):(B0 n).length<=k:=by
 refine PQ B9 af k n.toNat n.toNat ?_;grind
theorem GJ{n:Int}{k:Nat}(h0:0<=n)(h:n<(B9:Int)^k)(a:k<=9000):Bh (B0 n)=true/\hR (B0 n)=true/\Ar (B0 n)=n/\(B0 n).length<=k:=by
 have c:=Qn h0 h;have d:=Gz (b:=B9) af n;grind [vC,cQ,Du,Bh,B0,hR,Ar]
end Go.Sp
variable {Q:Go.Pe.PV->Go.Pe.Ob->Prop}
namespace Go.Pe
open Sp
open Go.Det
theorem Vi:Cr mT:=fun g sp h=>by cases h
namespace T190
theorem As{Q:PV->Ob->Prop}:∀(n:Nat) (w:List Int),w.length=n->n<=20000->(∀ob,Q (.dat li<|AE w) ob)->Ends mT (L1 w) Q
 |0,w,f,_,b=>by
  have:w=[]:=ah;subst this;exact zl (Al ..) (zo (by simp)<|zj<|b _)
 |n+1,w,f,g,b=>by
  obtain⟨p,x,rfl⟩:∃p x,w=p++[x]:=by
   have a:w≠[]:=ah
   exact⟨w.dropLast,w.getLast a,(yt a).symm⟩
  have hp:p.length=n:=ah
  have e:zf .i64 (((p++[x]).length:Int)-1)=(n:Int):=by grind [wr]
  have d:(p++[x]).getD n 0=x:=ah;have t1:(p++[x]).take n=p:=ah
  refine zl (Al ..) (zc (by simp) ?_);rw[e,zh,d,t1];refine zc ah (zm (fun c=>zc ah ?_)<|fun c=>?_)
  ·have c:x=0:=ah
   subst c;rw[Kd]at b;exact As n p hp ae b
  grind [JV,hH,zj]
theorem ok:Ae A1 190 UM:=by
 refine AX (X:=mT) rfl Vi (d:=9) (by rfl) (by rfl) (by rfl) (fun(w:List Int) a=>?_) (Ak ag);have a:w.length<=20000:=w6 a;exact zr (Ai w)<|As w.length w rfl a (fun ob=>zy rfl rfl rfl)
end T190
theorem Up:Cr bF:=Aa T190.ok AI
theorem T149.ok:Ae A1 149 H9:=by
 refine AX (X:=bF) rfl Up (d:=9) (by rfl) (by rfl) (by rfl) (fun(i:Bool×List Int) hi=>?_) (Ak ag);obtain⟨n,w⟩:=i;refine zr (T149.Ai n w)<|zc hi<|zm (fun c=>zj<|zy rfl rfl ?_)<|fun c=>zj<|zy rfl rfl ?_
 ·show(decide (((AE w).length:Int)>0),AE w)=(CY n w,AE w);unfold CY;congr 1;grind [yq]
 grind [CY,H9]
namespace T151
theorem As{Q:PV->Ob->Prop}(a b:List Int)(f:AD zd a)(g:AD zd b)(l:a.length=b.length)(n:b.length<=20000)(j:∀ob,Q (.dat i64<|Cd (Ar a)<|Ar b) ob):∀(i:Nat),i<=a.length->a.drop i=b.drop i->Ends mT (L1 a b<|(i:Int)-1) Q
 |0,o,k=>by
  simp_all [Cd,zl,Al]
 |i+1,o,k=>by
  have m:(((i+1:Nat):Int)-1)=(i:Int):=ae
  have h:a.drop i=a.getD i 0::a.drop (i+1):=CI ae;have db:b.drop i=b.getD i 0::a.drop (i+1):=by grind [CI]
  rw[m];refine zl (Al ..) (zc (by simp) ?_);refine zc ah (zc ah (zm (fun d=>?_)<|fun d=>zc ah<|zc ah<|zm (fun c=>?_)<|fun c=>?_))
  ·have d:=w6 d;have:=Kx (b:=zd) af f g h db d;simp_all [Cd,Ar]
  ·have c:=w6 c;have:=Kx (b:=zd) af g f db h c;have e:Cd (Ar a) (Ar b)=1:=by unfold Cd Ar;omega
   simp_all
  ·rw[wr ((i:Int)-1) ae ae];exact As a b f g l n j i ae ah
theorem ok:Ae A1 151 dH:=by
 refine AX (X:=mT) rfl Vi (d:=9) (by rfl) (by rfl) (by rfl) (fun(i:List Int×List Int) f=>?_) (Ak ag);obtain⟨a,b⟩:=i;have f:(Bh a&&Bh b)=true:=f;rw[zi]at f;obtain⟨a1,a2,a3⟩:=BB f.1;obtain⟨b1,b2,b3⟩:=BB f.2;have g:∀ob,Ac dH (a,b) (.dat i64<|Cd (Ar a)<|Ar b) ob:=fun ob=>zy rfl rfl rfl
 refine zr (Ai a b)<|zm (fun c=>zm (fun d=>?_)<|fun d=>?_)<|fun c=>?_
 ·simp_all [Cd,Ar,Ft]
 ·have d:=w7 d;have c:(a.length:Int)≠b.length:=ah
  have:=Ft (b:=zd) af b2 a2 a3 ae;have e:Cd (Ar a) (Ar b)=1:=by
   unfold Cd Ar;omega
  simp_all
 grind [wr,As]
end T151
theorem jM{x y o c:Int}(b:0<=x/\x<1000000000)(d:0<=y/\y<1000000000)(e:0<=o/\o<1000000000)(g:0<=c/\c<1000000000):
  zf .i64 (zf .i64 (o+zf .i64 (x*y))+c)=o+x*y+c/\qj (o+x*y+c) 1000000000=(o+x*y+c) % 1000000000/\zf .i64 (y9 (o+x*y+c) 1000000000)=(o+x*y+c)/1000000000/\
  (0<=(o+x*y+c)/1000000000/\(o+x*y+c)/1000000000<1000000000)/\(0<=(o+x*y+c) % 1000000000/\(o+x*y+c) % 1000000000<1000000000):=by
 have h0:0<=x*y:=yc b.1 d.1;have f:x*y<=999999999*999999999:=by
  have a:=zk (show y<=999999999 by omega) b.1;omega
 grind [wr]
namespace T153
theorem Bc(x y:List Int)(n i:Nat)(J:i<x.length)(v:n=x.length+y.length)(l:x.length<=9000)(m:y.length<=9000)(s:AD zd x)(r:AD zd y)(p:List Int)(hp:p.length=i+y.length)(a:AD zd p)
  (o:∀q c,q.length=i+y.length->AD zd q->(0<=c/\c<1000000000)->ze zd q+(zd:Int)^(i+y.length)*c=ze zd p+(zd:Int)^i*(x.getD i 0*ze zd y)->Ends bF (L1 x y n ((i+1:Nat):Int)<|(q++[c])++zq (n-(i+y.length+1)) 0) Q):∀(k j:Nat) (q:List Int) (c:Int),j+k=y.length->q.length=i+j->AD zd q->(0<=c/\c<1000000000)->ze zd q+(zd:Int)^(i+j)*c=ze zd (p.take<|i+j)+(zd:Int)^i*(x.getD i 0*ze zd (y.take j))->
  Ends bF (L2 x y n i c j<|q++(p.drop (i+j)++zq (n-(i+y.length)) 0)) Q
 |0,j,q,c,h,b,f,g,H=>by
  have h:j=y.length:=ae
  subst h;have d:zf .i64 ((i:Int)+(y.length:Int))=((i+y.length:Nat):Int):=by rw[wr _ ae ae];omega
  have e:zf .i64 ((i:Int)+1)=((i+1:Nat):Int):=by grind [wr]
  have L:p.drop (i+y.length)=[]:=ah;have G:(q++zq (n-(i+y.length)) (0:Int)).getD (i+y.length) 0=0:=by
   have:n-(i+y.length)=(n-(i+y.length+1))+1:=ae
   simp_all
  refine zl (AA ..) (zo (by simp) ?_);rw[d,e,zh,L,List.nil_append,G,Int.zero_add,wr c ae ae,Kw q n _ c b ae];refine zc (by simp;omega) (zc (by simp;omega) (zc (by simp;omega)<|zc (by simp;omega)<|o q c b f g ?_));grind
 |k+1,j,q,c,h,b,f,g,H=>by
  have D:=HV s i;have M:=HV r j;have A:=HV a<|i+j;have N:p.drop (i+j)=p.getD (i+j) 0::p.drop (i+j+1):=CI ae;have d:zf .i64 ((i:Int)+(j:Int))=((i+j:Nat):Int):=by rw[wr _ ae ae];omega
  have e:=wn (i:=j) ae;have t:(q++(p.drop (i+j)++zq (n-(i+y.length)) (0:Int))).getD (i+j) 0=p.getD (i+j) 0:=by
   grind [GN]
  have s1:∀z,(q++(p.drop (i+j)++zq (n-(i+y.length)) (0:Int))).set (i+j) z=(q++[z])++(p.drop (i+(j+1))++zq (n-(i+y.length)) 0):=by
   grind [E7]
  obtain⟨B,C,K,E,I⟩:=jM D M A g;refine zl (AA ..) (zc ah ?_);rw[d,e,zh,zh,zh,t,B,C,K,s1];have t1:(decide ((0:Int)<=((i+j:Nat):Int))&&decide (((i+j:Nat):Int)<(n:Int)))=true:=by simp;omega
  refine zc t1 (zc ah (zc ah<|zc (by simp;omega)<|zc rfl (zc t1<|zc ah<|zc rfl ?_)));refine Bc x y n i J v l m s r p hp a o k (j+1) _ _ ae (by simp;omega) (Gs f I) E ?_;have F:i+(j+1)=(i+j)+1:=ae
  have u:(zd:Int)^i*(x.getD i 0*((zd:Int)^j*y.getD j 0))=(zd:Int)^(i+j)*(x.getD i 0*y.getD j 0):=by
   grind
  have w:(p.getD (i+j) 0+x.getD i 0*y.getD j 0+c) % 1000000000+1000000000*((p.getD (i+j) 0+x.getD i 0*y.getD j 0+c)/1000000000)=x.getD i 0*y.getD j 0+p.getD (i+j) 0+c:=by
   omega
  rw[F,CH,b,Nx,ql, <-yd,w,AN _ p<|i+j,AN _ y j,yd,yd,yd<|x.getD i 0,yd,u];omega
theorem As(x y:List Int)(n:Nat)(j:n=x.length+y.length)(a:x.length<=9000)(b:y.length<=9000)(g:AD zd x)(h:AD zd y)(m:∀ob,Q (.dat li<|B0<|Ar x*Ar y) ob):∀(k i:Nat) (p:List Int),i+k=x.length->p.length=i+y.length->AD zd p->ze zd p=ze zd (x.take i)*ze zd y->
  Ends bF (L1 x y n i<|p++zq (n-(i+y.length)) 0) Q
 |0,i,p,l,hp,f,e=>by
  subst l;have o:Ar p=Ar x*Ar y:=by
   rw[yf]at e;exact e
  refine zl (Al ..) (zo (by simp) ?_);grind [zc,zj,F8]
 |k+1,i,p,l,hp,f,e=>by
  refine zl (Al ..) (zc ah ?_);have:=Bc (Q:=Q) x y n i ae j a b g h p hp f (fun q c s d r o=>by
   have:=As x y n j a b g h m k (i+1) (q++[c]) ae ah (Gs d r) (by
    grind [CH,AN])
   grind) y.length 0 (p.take i) 0 ae ah (AW f i) af (by simp[ze])
  rw[Nat.add_zero, <-List.append_assoc,yg]at this;omega
theorem ok:Ae A1 153 fR:=by
 refine AX (X:=bF) rfl Up (d:=9) (by rfl) (by rfl) (by rfl) (fun(i:List Int×List Int) a=>?_) (Ak ag);obtain⟨x,y⟩:=i;have a:(Sp.hR x&&Sp.hR y)=true:=a;rw[zi]at a;obtain⟨x1,x2⟩:=Adr a.1;obtain⟨y1,y2⟩:=Adr a.2;have b:zf .i64 ((x.length:Int)+(y.length:Int))=((x.length+y.length:Nat):Int):=by grind [wr]
 refine zr (Ai x y) ?_;conv=>zeta
 rw[b,zh];refine zc (by simp;omega) ?_;have:=As (Q:=Ac fR (x,y)) x y (x.length+y.length) rfl x1 y1 x2 y2 (fun ob=>zy rfl rfl rfl) x.length 0 (zq y.length 0) ae (by simp) (fun d c=>by grind) (by grind [Oq,ze]);rw[qf,List.replicate_append_replicate,show y.length+(x.length+y.length-y.length)=x.length+y.length by omega]at this;omega
end T153
theorem lX{r x d:Int}(a:0<d/\d<1000000000)(hr:0<=r/\r<d)(b:0<=x/\x<1000000000):
  zf .i64 (zf .i64 (r*1000000000)+x)=r*1000000000+x/\zf .i64 (y9 (r*1000000000+x) d)=(r*1000000000+x)/d/\qj (r*1000000000+x) d=(r*1000000000+x) % d/\
  (0<=(r*1000000000+x)/d/\(r*1000000000+x)/d<1000000000)/\(0<=(r*1000000000+x) % d/\(r*1000000000+x) % d<d)/\(r*1000000000+x)/d*d+(r*1000000000+x) % d=r*1000000000+x:=by
 have h:=Int.mul_ediv_add_emod (r*1000000000+x) d;rw[ya]at h;have q0:0<=(r*1000000000+x)/d:=Int.ediv_nonneg ae ae;have q1:(r*1000000000+x)/d<1000000000:=Int.ediv_lt_of_lt_mul a.1 ae;refine⟨?_,?_,ah,⟨q0,q1⟩,⟨qh _ ae,yw _ a.1⟩,h⟩
 ·grind [wr]
 grind [wr]
namespace T189
theorem As(a:List Int)(d:Int)(e:AD zd a)(f:0<d/\d<1000000000)(m:a.length<=20000)(g:∀q r ob,AD zd q->(0<=r/\r<d)->Ar a=Ar q*d+r->Q (.tup [.dat li<|AE q,.dat i64 r]) ob):∀(i:Nat) (q:List Int) (r:Int),i+q.length=a.length->AD zd q->(0<=r/\r<d)->ze zd (a.drop i)=ze zd q*d+r->
  Ends bF (L1 a d a.length r ((i:Int)-1)<|zq i 0++q) Q
 |0,q,r,p,b,hr,l=>by
  refine zl (Al ..) (zo (by simp) ?_);grind [zc,zj,Ar]
 |i+1,q,r,p,b,hr,l=>by
  have o:(((i+1:Nat):Int)-1)=(i:Int):=ae
  have k:=HV e i;obtain⟨t,n,s,j,h,v⟩:=lX f hr k;have u:a.drop i=a.getD i 0::a.drop (i+1):=CI ae;have es:∀x,(zq (i+1) (0:Int)++q).set i x=zq i 0++(x::q):=by
   grind [List.replicate_succ',E7]
  rw[o];refine zl (Al ..) (zc (by simp) ?_);rw[zh,es,wr ((i:Int)-1) ae ae,t,n,s];refine zc ah (zc ah<|zc ah (zc ah<|zc ah ?_));refine As a d e f m g i _ _ ah (fun x c=>?_) h ?_
  ·rcases yz.1 c with rfl|c
   ·exact j
   ·exact b x c
  ·rw[u];show a.getD i 0+(1000000000:Int)*ze zd (a.drop<|i+1)=((r*1000000000+a.getD i 0)/d+(1000000000:Int)*ze zd q)*d+(r*1000000000+a.getD i 0) % d;grind
theorem ok:Ae A1 189 Z1:=by
 refine AX (X:=bF) rfl Up (d:=9) (by rfl) (by rfl) (by rfl) (fun(i:List Int×Int) c=>?_) (Ak ag);obtain⟨a,d⟩:=i;have c:(Lz a&&decide (0<d)&&decide (d<1000000000))=true:=c;rw[zi,zi,w5,w5]at c;obtain⟨⟨ha,d0⟩,d1⟩:=c;obtain⟨hl,hda⟩:=RC ha;refine zr (Ai a d) ?_;conv=>zeta
 rw[zh,wr ((a.length:Int)-1) ae ae];refine zc (by simp;omega) ?_;have:=As (Q:=Ac Z1 (a,d)) a d hda ⟨d0,d1⟩ hl (fun q r ob f hr g=>?_) a.length [] 0 (by simp) (fun x e=>by cases e) ae (by grind [ze])
 ·grind
 ·refine zy rfl rfl ?_;show(AE q,r)=(B0<|Ar a/d,Ar a % d);obtain⟨u1,u2⟩:=(Int.ediv_emod_unique (a:=Ar a) (b:=d) (r:=r) (q:=Ar q) d0).2 ah;grind [F8]
end T189
theorem Ac8:Cr NJ:=
 Aa T151.ok (by grind [Aa,T190.ok,T189.ok,T153.ok,FM])
theorem UZ{t x y w:Int}(b:0<=t/\t<1000000000)(c:0<=x/\x<1000000000)(f:0<=y/\y<1000000000)(d:0<=w/\w<=1000000000):
  zf .i64 (zf .i64 (t*x)+w)=t*x+w/\qj (t*x+w) 1000000000=(t*x+w) % 1000000000/\zf .i64 (y9 (t*x+w) 1000000000)=(t*x+w)/1000000000/\
  zf .i64 ((t*x+w)/1000000000+1)=(t*x+w)/1000000000+1/\zf .i64 (y-(t*x+w) % 1000000000)=y-(t*x+w) % 1000000000/\(0<=(t*x+w)/1000000000/\(t*x+w)/1000000000<1000000000)/\(0<=(t*x+w) % 1000000000/\(t*x+w) % 1000000000<1000000000):=by
 have h0:0<=t*x:=yc b.1 c.1;have e:t*x<=999999999*999999999:=by
  have a:=zk (show x<=999999999 by omega) b.1;omega
 grind [wr]
namespace T147
theorem gW{lo w z:List Int}{h:Int}{j i:Nat}(a:lo.length=j)(b:i<w.length):(lo++(w++h::z)).getD (i+j) 0=w.getD i 0:=by
 grind
theorem sW{lo w z:List Int}{h:Int}{j i:Nat}(x:Int)(a:lo.length=j)(b:i<w.length):(lo++(w++h::z)).set (i+j) x=lo++(w.set i x++h::z):=by
 grind
theorem gH{lo w z:List Int}{h:Int}{j n:Nat}(a:lo.length=j)(b:w.length=n):(lo++(w++h::z)).getD (n+j) 0=h:=by
 grind
theorem sH{lo w z:List Int}{h:Int}{j n:Nat}(x:Int)(a:lo.length=j)(b:w.length=n):(lo++(w++h::z)).set (n+j) x=lo++(w++x::z):=by
 simp_all
theorem Qo(w z:List Int)(h:Int)(a:ze zd z=0):ze zd (w++h::z)=ze zd w+(zd:Int)^w.length*h:=by
 simp_all [Dm,ze]
theorem C0(m a e:Nat)(x F v lo z:List Int)(n j:Nat)(t h' X:Int)(O:v.length=n)(E:n<=9000)(f:lo.length=j)(L:j<=9000)(G:n+j<a)(y:j<e)(B:j<x.length)(H:AD zd v)(P:ze zd z=0)(q:AD zd z)(M: -2000000000<=h'/\h'<=2000000000)
  (R:0<=X/\X<(zd:Int)^n) (u:a=j+n+1+z.length)
  (h:∀r:List Int,r.length=n+1+z.length->AD zd r->ze zd r=X->Ends NJ (L2 m v n a e (zf .i64<|(j:Int)-1) (x.set j t) (lo++r) F) Q):
  ∀(k i:Nat) (w:List Int) (c:Int),i+k=n->w.length=n->AD zd w->(0<=c/\c<=1)->ze zd w+(zd:Int)^n*h'=X-ze zd v+ze zd (v.take i)-(zd:Int)^i*c->
   Ends NJ (L5 m v n a e j t c i x (lo++(w++h'::z)) F) Q
 |0,i,w,c,C,p,s,N,I=>by
  have C:i=n:=ae
  subst C;have A:zf .i64 ((j:Int)+(i:Int))=((i+j:Nat):Int):=by grind [wr]
  have D:v.take i=v:=ah;rw[D]at I;have a1:=AJ (b:=zd) af s;have a2:=BD (b:=zd) af s;rw[p]at a2;have hp:=Bn (b:=zd) af i;have J:ze zd w+(zd:Int)^i*(h'+c)=X:=ah
  have l:h'+c=0:=by
   rcases Int.lt_trichotomy (h'+c) 0 with g|g|g
   ·have:=zk (show h'+c<= -1 by omega)<|z8 hp;omega
   ·exact g
   ·have:=zk (show 1<=h'+c by omega)<|z8 hp;omega
  refine zl (Dl ..) (zo (by simp) ?_);rw[A,zh,zh,gH f p,sH _ f p,wr (h'+c) ae ae,l];have t1:(decide ((0:Int)<=((i+j:Nat):Int))&&decide (((i+j:Nat):Int)<(a:Int)))=true:=ah
  refine zc t1 (zc ah<|zc t1<|zc ah (zc ah<|zc ah<|h _ ah (Hs s<|fun d o=>?_) ?_))
  ·rcases yz.1 o with rfl|o
   ·decide
   ·exact q d o
  grind [Qo]
 |k+1,i,w,c,C,p,s,N,I=>by
  have U:=HV H i;have V:=HV s i;have A:zf .i64 ((i:Int)+(j:Int))=((i+j:Nat):Int):=by grind [wr]
  have S:zf .i64 ((i:Int)+1)=((i+1:Nat):Int):=by grind [wr]
  have K:zf .i64 (zf .i64 (w.getD i 0+v.getD i 0)+c)=w.getD i 0+v.getD i 0+c:=by
   grind [wr]
  have T:qj (w.getD i 0+v.getD i 0+c) 1000000000=(w.getD i 0+v.getD i 0+c) % 1000000000:=ah;have J:zf .i64 (y9 (w.getD i 0+v.getD i 0+c) 1000000000)=(w.getD i 0+v.getD i 0+c)/1000000000:=by
   grind [wr]
  refine zl (Dl ..) (zc ah ?_);rw[A,S,zh,zh,gW f ae,sW _ f ae,K,T,J];have t1:(decide ((0:Int)<=((i+j:Nat):Int))&&decide (((i+j:Nat):Int)<(a:Int)))=true:=by simp;omega
  refine zc t1 (zc ah<|zc ah (zc rfl (zc t1<|zc ah<|zc rfl ?_)));refine C0 m a e x F v lo z n j t h' X O E f L G y B H P q M R u h k (i+1) _ _ ae (by simp[p]) (by grind [Ic]) ae ?_;rw[IU _ _ _ _ ae,Nx,AN];grind
theorem Ck(f a b:Nat)(g o v lo z:List Int)(n j:Nat)(t h W:Int)(N:v.length=n)(B:n<=9000)(e:lo.length=j)(L:j<=9000)(C:n+j<a)(q:j<b)(r:j<g.length)(E:AD zd v)(M:0<=h/\h<1000000000)(p:a=j+n+1+z.length)(G:0<=t/\t<1000000000)
  (h0:∀(w:List Int) (h':Int),w.length=n->AD zd w->0<=h'->ze zd w+(zd:Int)^n*h'=W-t*ze zd v->Ends NJ (L2 f v n a b (zf .i64<|(j:Int)-1) (g.set j t) (lo++(w++h'::z)) o) Q)
  (U:∀(w:List Int) (h':Int),w.length=n->AD zd w->h'<0-> -2000000000<=h'->ze zd w+(zd:Int)^n*h'=W-t*ze zd v->Ends NJ (L5 f v n a b j (zf .i64<|t-1) 0 0 g (lo++(w++h'::z)) o) Q):
  ∀(k i:Nat) (w:List Int) (c:Int),i+k=n->w.length=n->AD zd w->(0<=c/\c<=1000000000)->ze zd w+(zd:Int)^n*h=W-t*ze zd (v.take i)+(zd:Int)^i*c->
   Ends NJ (L4 f v n a b j t c i g (lo++(w++h::z)) o) Q
 |0,i,w,c,u,l,D,H,F=>by
  have u:i=n:=ae
  subst u;have s:zf .i64 ((j:Int)+(i:Int))=((i+j:Nat):Int):=by rw[wr _ ae ae];omega
  have y:v.take i=v:=ah;rw[y]at F;have V:i+j<(lo++(w++h::z)).length:=ah
  have I:i+j<(lo++(w++(h-c)::z)).length:=by simp;omega
  have e5:ze zd w+(zd:Int)^i*(h-c)=W-t*ze zd v:=ah
  refine zl (BX ..) (zo (by simp) ?_);rw[s,zh,zh,gH e l,wr (h-c) ae ae,sH _ e l,gH e l];have t1:(decide ((0:Int)<=((i+j:Nat):Int))&&decide (((i+j:Nat):Int)<(a:Int)))=true:=ah
  refine zc t1 (zc ah<|zc t1<|zc ah<|zc t1<|zc ah<|zm (fun d=>?_)<|fun d=>?_)
  ·grind
  simp_all
 |k+1,i,w,c,u,l,D,H,F=>by
  have T:=HV E i;have Y:=HV D i;obtain⟨P,S,R,X,O,m6,m7⟩:=UZ G T Y H;have s:zf .i64 ((i:Int)+(j:Int))=((i+j:Nat):Int):=by rw[wr _ ae ae];omega
  have Z:=wn (i:=i) ae;have t1:(decide ((0:Int)<=((i+j:Nat):Int))&&decide (((i+j:Nat):Int)<(a:Int)))=true:=by simp;omega
  have go:∀(x m:Int),(0<=x/\x<1000000000)->(0<=m/\m<=1000000000)->c+(x-w.getD i 0)=1000000000*m-t*v.getD i 0->Ends NJ (L4 f v n a b j t m ((i+1:Nat):Int) g (lo++(w.set i x++h::z)) o) Q:=by
   intro x m J A K;refine Ck f a b g o v lo z n j t h W N B e L C q r E M p G h0 U k (i+1) _ _ ae (by simp[l]) (Ic D i J) A ?_;rw[IU _ _ _ _ ae,Nx,AN,yd t,Int.mul_left_comm t];grind
  refine zl (BX ..) (zc ah ?_);rw[s,Z,zh,zh,gW e ae,P,S,R,X,O,sW _ e ae,sW _ e ae];refine zc (by simp;omega) (zc t1 (zc ah<|zc rfl (zc rfl (zm (fun d=>?_)<|fun d=>?_))))
  ·have d:=w6 d;rw[wr (w.getD i 0-(t*v.getD i 0+c) % 1000000000+1000000000) ae ae];refine zc t1 (zc ah<|go _ _ ae ae ?_);omega
  ·have d:=w7 d;refine zc t1 (zc ah<|go _ _ ae ae ?_);omega
theorem Aa7(i f h:Nat)(t A v lo e:List Int)(n j:Nat)(D:v.length=n)(u:n<=9000)(p:lo.length=j)(G:j<=9000)(hr:n+1<=e.length)(K:f=j+e.length)(l:j<h)(m:j<t.length)(z:AD zd v)(B:AD zd e)(O:ze zd (e.drop<|n+1)=0)
  (k:∀(q:Int) (r:List Int),r.length=e.length->AD zd r->(0<=q/\q<1000000000)->ze zd r<ze zd v->ze zd r=ze zd e-q*ze zd v->Ends NJ (L2 i v n f h (zf .i64<|(j:Int)-1) (t.set j q) (lo++r) A) Q)
  (q:Int) (J:0<=q/\q<1000000000) (P:ze zd e<(q+1)*ze zd v) (V:q*ze zd v<ze zd e+ze zd v):
  Ends NJ (L4 i v n f h j q 0 0 t (lo++e) A) Q:=by
 have y:e=e.take n++e.getD n 0::e.drop (n+1):=by
  grind [CI,yg]
 have gh:=HV B n;have F:=AW B n;have o:=Fy B<|n+1;have E:(e.take n).length=n:=ah
 have R:(e.drop<|n+1).length=e.length-(n+1):=(by simp);have hW:ze zd e=ze zd (e.take n)+(zd:Int)^n*e.getD n 0:=by
  grind [Qo]
 have s:=BD (b:=zd) af z;rw[D]at s;have L:=AJ (b:=zd) af z;have S:=AJ (b:=zd) af B;have hp:=Bn (b:=zd) af n;rw[Int.add_mul,yy]at P;rw[y];refine Ck i f h t A v lo (e.drop<|n+1) n j q (e.getD n 0) (ze zd e) D u p G ae l m z gh ae J (fun w h' a b c d=>?_) (fun w h' a b c U d=>?_) n 0 (e.take n) 0 ae E F af (by rw[<-hW];simp[ze])
 ·have H:=AJ (b:=zd) af b;have T:h'=0:=by
   rcases yv 0 h' with g|g
   ·have:=zk (show 1<=h' by omega)<|z8 hp;omega
   ·omega
  refine k q _ ah (Hs b<|fun x C=>?_) J ?_ ?_
  ·rcases yz.1 C with rfl|C
   ·grind
   ·exact o x C
  ·grind [Qo]
  grind [Qo]
 ·have H:=BD (b:=zd) af b;rw[a]at H;have I:ze zd e-q*ze zd v<0:=by
   have:=zk (show h'<= -1 by omega)<|z8 hp;omega
  have M:1<=q:=by
   rcases yv 0 q with g|g
   ·exact g
   ·have:q=0:=ae
    subst this;omega
  rw[wr (q-1) ae ae];refine C0 i f h t A v lo (e.drop<|n+1) n j (q-1) h' (ze zd e-q*ze zd v+ze zd v) D u p G ae l m z O o ae ae ae (fun r W b' N=>?_) n 0 w 0 ae a b af (by simp[ze]<;>omega);refine k (q-1) r ae b' ae ae ?_;rw[N,Int.sub_mul,yy];omega
theorem DE(l e i:Nat)(s z v lo h:List Int)(a2 a1 a0:List Int)(k j:Nat)(M:v.length=k+2)(D:k+2<=9000)(u:lo.length=j)(W:j<=9000)(hr:k+3<=h.length)(t:e=j+h.length)(E:j<i)(C:j<s.length)(x:AD zd v)(w:AD zd h)(T:ze zd (h.drop<|k+3)=0)(H:1<=v.getD (k+1) 0)
  (G:h.getD (k+2) 0<=v.getD (k+1) 0) (K:ze zd h<1000000000*ze zd v)
  (m:∀(q:Int) (r:List Int),r.length=h.length->AD zd r->(0<=q/\q<1000000000)->ze zd r<ze zd v->ze zd r=ze zd h-q*ze zd v->Ends NJ (L2 l v ((k+2:Nat):Int) e i (zf .i64<|(j:Int)-1) (s.set j q) (lo++r) z) Q):
  ∀(f:Nat) (q r:Int),0<=q->q<f->q<=2000000000000000000->(0<=r/\r<1000000000)->q*v.getD (k+1) 0+r=h.getD (k+2) 0*1000000000+h.getD (k+1) 0->ze zd h<(q+1)*ze zd v->
   Ends NJ (L3 l v ((k+2:Nat):Int) e i j a2 a1 a0 e v j ((k+2:Nat):Int) q r s (lo++h) z) Q
 |0,q,r,h0,hf,_,_,_,_=>by omega
 |f+1,q,r,h0,hf,V,hr1,X,P=>by
  have y:=HV x k;have gv1:=HV x<|k+1;have gu2:=HV w k;have gu1:=HV w<|k+1;have hP:=Bn (b:=zd) af k;have hW:=AaU zd h k ae T;have Z:=AbB zd v k M;have O:=AJ (b:=zd) af<|AW w k;have o:=BD (b:=zd) af<|AW w k;have F:=AJ (b:=zd) af<|AW x k;have p:=BD (b:=zd) af<|AW x k;have L:=AJ (b:=zd) af x;rw[z7,yu ae]at o p;have exit:∀q R:Int,0<=q->q<1000000000->q*v.getD (k+1) 0+R=h.getD (k+2) 0*1000000000+h.getD (k+1) 0->ze zd h<(q+1)*ze zd v->q*v.getD k 0<=R*1000000000+h.getD k 0->Ends NJ (L4 l v ((k+2:Nat):Int) e i j q 0 0 s (lo++h) z) Q:=by
   intro q R q0 q1 U S J;refine Aa7 l e i s z v lo h (k+2) j M D u W hr t E C x w T m q ⟨q0,q1⟩ S ?_;rw[hW,Z];exact WR hP ⟨F,p⟩ O ⟨q0,q1⟩ H y.1 U J
  have e1:zf .i64 (((k+2:Nat):Int)-2)=(k:Int):=by rw[wr _ ae ae];omega
  have e2:zf .i64 (((k+2:Nat):Int)-1)=((k+1:Nat):Int):=by rw[wr _ ae ae];omega
  have e3:zf .i64 (zf .i64 ((j:Int)+((k+2:Nat):Int))-2)=((k+j:Nat):Int):=by
   rw[wr ((j:Int)+((k+2:Nat):Int)) ae ae,wr _ ae ae];omega
  have g3:(lo++h).getD (k+j) 0=h.getD k 0:=Nd _ _ _ _ u;have Y:(decide ((0:Int)<=((k+1:Nat):Int))&&decide (((k+1:Nat):Int)<(v.length:Int)))=true:=by simp;omega
  have A:ze zd h<q*ze zd v->Ends NJ (.ite (decide (zf .i64 (r+v.getD (k+1) 0)>=(1000000000:Int))) (L4 l v ((k+2:Nat):Int) e i j (zf .i64<|q-1) 0 0 s (lo++h) z)<|L3 l v ((k+2:Nat):Int) e i j a2 a1 a0 e v j ((k+2:Nat):Int) (zf .i64<|q-1) (zf .i64<|r+v.getD (k+1) 0) s (lo++h) z) Q:=by
   intro J;have hW0:=AJ (b:=zd) af w;have hq1:1<=q:=by
    rcases yv 0 q with g|g
    ·exact g
    ·have:q=0:=ae
     subst this;rw[Int.zero_mul]at J;omega
   have I:(q-1)*v.getD (k+1) 0+(r+v.getD (k+1) 0)=h.getD (k+2) 0*1000000000+h.getD (k+1) 0:=by rw[Int.sub_mul,yy];omega
   have n:ze zd h<(q-1+1)*ze zd v:=by rw[show q-1+1=q by omega];exact J
   rw[wr (q-1) ae ae,wr (r+v.getD (k+1) 0) ae ae];refine zm (fun c=>?_)<|fun c=>?_
   ·have c:=w6 c;have N:q-1<1000000000:=by
     rcases yv (q-1) 1000000000 with g|g
     ·exact g
     ·have a:=zt g (show 0<=v.getD (k+1) 0 by omega);have b:=zt G (show(0:Int)<=1000000000 by omega);omega
    refine exit (q-1) _ ae N I n ?_;have a:=zk (show v.getD k 0<=999999999 by omega) (show 0<=q-1 by omega);omega
   ·have c:=w7 c;exact DE l e i s z v lo h a2 a1 a0 k j M D u W hr t E C x w T H G K m f (q-1) _ ae ae ae ae I n
  refine zl (Bo ..) ?_;conv=>zeta
  rw[e1,e2,e3,zh,zh,zh,g3];refine zm (fun c=>zc Y<|A ?_) (fun c=>zc (by simp;omega) (zc (by simp;omega)<|zc (by simp;omega)<|zm (fun d=>zc Y<|A ?_)<|fun d=>?_))
  ·have c:=w6 c;have:=zt c L;omega
  ·have c:=w7 c;have d:=w6 d;have a:=zk (show v.getD k 0<=999999999 by omega) h0;have b:=yc h0 y.1;rw[wr (q*v.getD k 0) ae ae,wr (r*1000000000) ae ae,wr _ ae ae]at d;have:=YK (B:=zd) (u0:=h.getD (k+2) 0) (u1:=h.getD (k+1) 0) (u2:=h.getD k 0) hP F o h0 (v1:=v.getD (k+1) 0) (v2:=v.getD k 0) (r:=r) X d;rw[<-hW, <-Z]at this;exact this
  ·have c:=w7 c;have d:=w7 d;have a:=zk (show v.getD k 0<=999999999 by omega) h0;have b:=yc h0 y.1;rw[wr (q*v.getD k 0) ae ae,wr (r*1000000000) ae ae,wr _ ae ae]at d;exact exit q r h0 ae X P ae
end T147
theorem Hy{w:List Int}(a:AD zd w)(c:Sp.nz w){k:Nat}(b:w.length=k+1):0<w.getD k 0/\w.getD k 0<1000000000:=by
 have g:=HV a k;grind [Sp.nz]
theorem ET(d:Int):ze zd [d]=d:=by simp[ze]
namespace T147
theorem Bc(v:List Int)(k h:Nat)(f:Int)(hf:0<f/\f<1000000000)(B:v.length=k+2)(K:h<=9000)(Y:k+2<=h)(w:AD zd v)(I:1<=v.getD (k+1) 0)(N:Int)
  (hq:∀(u c:List Int) ob,AD zd u->AD zd c->ze zd u<ze zd v->N=ze zd u+ze zd v*ze zd c->Q (.tup [.dat li<|AE c,.dat li<|B0<|ze zd u/f]) ob):
  ∀(t:Nat) (u c:List Int),t+c.length=h-(k+2)+1->u.length=h+1->AD zd u->AD zd c->ze zd (u.drop t)<ze zd v->N=ze zd u+ze zd v*((zd:Int)^t*ze zd c)->
   Ends NJ (L2 1 v ((k+2:Nat):Int) (h+1) (h-(k+2)+1) ((t:Int)-1) (zq t 0++c) u [f]) Q
 |0,u,c,hl,M,A,G,p,he=>by
  have p:ze zd u<ze zd v:=p;have o:=BD (b:=zd) af w;rw[B]at o;have H:ze zd (u.drop<|k+2)=0:=Kq (b:=zd) af A ae ae;have Z:ze zd (u.take<|k+2)=ze zd u:=by
   rw[CG zd u (k+2) ae,H,Int.mul_zero,Int.add_zero]
  have ht:(zq 0 0++c).take (h-(k+2)+1)=c:=by
   grind
  have htr:=Ja<|AW A<|k+2;have hlr:(AE<|u.take<|k+2).length<=9000:=by
   rw[F8<|AW A<|k+2];refine Nat.le_trans (Qn (k:=k+2) (AJ af<|AW A<|k+2) ?_) ae;show ze zd (u.take<|k+2)<_;omega
  have L:Ar (AE<|u.take<|k+2)=ze zd u:=by
   show ze zd (AE _)=_;rw[KP,Z]
  refine zl (AA ..) (zo (by simp) ?_);rw[zh,ht,L];refine zc ah (zc rfl (zc rfl (zc ah<|zc (by grind [ND])<|zc ah<|by simp_all)))
 |j+1,u,c,hl,M,A,G,p,he=>by
  obtain⟨lo,r,rfl,n⟩:∃lo r:List Int,u=lo++r/\lo.length=j:=⟨u.take j,u.drop j,(yg j u).symm,by rw[z7];omega⟩;have C:AD zd lo:=fun d g=>A d<|List.mem_append.2<|.inl g
  have e:AD zd r:=fun d g=>A d<|List.mem_append.2<|.inr g
  have hrl:r.length=h+1-j:=by rw[yb]at M;omega
  have m:∀z:List Int,(lo++z).drop j=z:=fun z=>by rw[<-n];exact List.drop_left
  have O:r=r.getD 0 0::r.drop 1:=by
   have:=CI (l:=r) (i:=0) ae;rw[List.drop_zero]at this;exact this
  have T:(lo++r).drop (j+1)=r.drop 1:=by rw[Nat.add_comm j 1,Nat.add_comm 1 j, <-List.drop_drop,m]
  rw[T]at p;have g0:=HV e 0;have P:ze zd r=r.getD 0 0+1000000000*ze zd (r.drop 1):=by
   conv=>lhs;rw[O]
   rfl
  have o:=BD (b:=zd) af w;rw[B]at o;have R:ze zd r<1000000000*ze zd v:=by rw[P];omega
  have H:ze zd (r.drop<|k+3)=0:=by
   refine Kq (b:=zd) af e ae ?_;have ep:(zd:Int)^(k+3)=(zd:Int)^(k+2)*1000000000:=yo ..;rw[ep];omega
  have gu0:=HV e<|k+2;have gu1:=HV e<|k+1;have S:=HV e k;have gv1:=HV w<|k+1;have gv2:=HV w k;have hP:=Bn (b:=zd) af k;have hW:=AaU zd r k ae H;have hV:=AbB zd v k B;have s:=BD (b:=zd) af<|AW e k;have V:=AJ (b:=zd) af<|AW w k;rw[z7,yu ae]at s;have X:r.getD (k+2) 0<=v.getD (k+1) 0:=by
   have a1:=CG zd (r.drop 1) (k+1) (by rw[zp];omega);have a2:(r.drop 1).drop (k+1)=r.getD (k+2) 0::r.drop (k+3):=by
    rw[List.drop_drop,show 1+(k+1)=k+2 by omega];exact CI ae
   have a3:ze zd (r.getD (k+2) 0::r.drop (k+3))=r.getD (k+2) 0:=by
    show r.getD (k+2) 0+(zd:Int)*ze zd (r.drop<|k+3)=_;rw[H];omega
   rw[a2,a3]at a1;have b1:ze zd v=ze zd (v.take<|k+1)+(zd:Int)^(k+1)*v.getD (k+1) 0:=by
    rw[<-AN,zn ae]
   have J:=BD (b:=zd) af<|AW w<|k+1;rw[z7,yu ae]at J;have c1:=AJ (b:=zd) af<|AW (Fy e 1)<|k+1;have c2:(zd:Int)^(k+1)*r.getD (k+2) 0<(zd:Int)^(k+1)*(v.getD (k+1) 0+1):=by
    rw[yd,Int.mul_one];omega
   have:=yp c2 (z8<|Bn af<|k+1);omega
  have D:∀(q:Int) (y:List Int),y.length=r.length->AD zd y->(0<=q/\q<1000000000)->ze zd y<ze zd v->ze zd y=ze zd r-q*ze zd v->Ends NJ (L2 1 v ((k+2:Nat):Int) (h+1) (h-(k+2)+1) (zf .i64<|(j:Int)-1) ((zq (j+1) 0++c).set j q) (lo++y) [f]) Q:=by
   intro q y h1 h2 h3 h4 h5;have es:(zq (j+1) (0:Int)++c).set j q=zq j 0++(q::c):=by
    rw[List.replicate_succ',List.append_assoc];exact E7 _ _ _ _ (by simp)
   rw[es,wr ((j:Int)-1) ae ae];refine Bc v k h f hf B K Y w I N hq j (lo++y) (q::c) (by simp;omega) (by simp;omega) (Hs C h2) (fun d g=>?_) (by rw[m];exact h4) ?_
   ·rcases yz.1 g with rfl|g
    ·exact h3
    ·exact G d g
   ·rw[he,Dm,Dm,n,h5,Nx];show ze zd lo+(zd:Int)^j*ze zd r+ze zd v*((zd:Int)^j*(1000000000*ze zd c))=ze zd lo+(zd:Int)^j*(ze zd r-q*ze zd v)+ze zd v*((zd:Int)^j*(q+1000000000*ze zd c));have x1:ze zd v*((zd:Int)^j*q)=(zd:Int)^j*(q*ze zd v):=by
     rw[Int.mul_left_comm,ya (ze zd v) q]
    rw[Int.mul_sub,yd ((zd:Int)^j) q,yd<|ze zd v,x1];omega
  have e0:(((j+1:Nat):Int)-1)=(j:Int):=ae
  have L:zf .i64 ((j:Int)+((k+2:Nat):Int))=((k+2+j:Nat):Int):=by rw[wr _ ae ae];omega
  have e2:zf .i64 (((k+2+j:Nat):Int)-1)=((k+1+j:Nat):Int):=by rw[wr _ ae ae];omega
  have e3:zf .i64 (((k+2:Nat):Int)-1)=((k+1:Nat):Int):=by rw[wr _ ae ae];omega
  have g1:(lo++r).getD (k+2+j) 0=r.getD (k+2) 0:=Nd _ _ _ _ n;have g2:(lo++r).getD (k+1+j) 0=r.getD (k+1) 0:=Nd _ _ _ _ n;have hll:(lo++r).length=h+1:=M;have F:zf .i64 (zf .i64 (r.getD (k+2) 0*1000000000)+r.getD (k+1) 0)=r.getD (k+2) 0*1000000000+r.getD (k+1) 0:=by
   rw[wr (r.getD (k+2) 0*1000000000) ae ae];exact wr _ ae ae
  have a:0<=r.getD (k+2) 0*1000000000+r.getD (k+1) 0:=ae
  have E:0<=(r.getD (k+2) 0*1000000000+r.getD (k+1) 0)/v.getD (k+1) 0:=Int.ediv_nonneg a ae;have hqs:(r.getD (k+2) 0*1000000000+r.getD (k+1) 0)/v.getD (k+1) 0<=r.getD (k+2) 0*1000000000+r.getD (k+1) 0:=Int.ediv_le_self _ a;have x:=Int.mul_ediv_add_emod (r.getD (k+2) 0*1000000000+r.getD (k+1) 0)<|v.getD (k+1) 0;have W:=qh (r.getD (k+2) 0*1000000000+r.getD (k+1) 0) (show v.getD (k+1) 0≠0 by omega);have U:=yw (r.getD (k+2) 0*1000000000+r.getD (k+1) 0) (show 0<v.getD (k+1) 0 by omega);rw[ya]at x;have et:zf .i64 (y9 (r.getD (k+2) 0*1000000000+r.getD (k+1) 0)<|v.getD (k+1) 0)=(r.getD (k+2) 0*1000000000+r.getD (k+1) 0)/v.getD (k+1) 0:=by
   rw[yn a];exact wr _ ae ae
  have em:qj (r.getD (k+2) 0*1000000000+r.getD (k+1) 0) (v.getD (k+1) 0)=(r.getD (k+2) 0*1000000000+r.getD (k+1) 0) % v.getD (k+1) 0:=Int.tmod_eq_emod_of_nonneg a;have J:(decide ((0:Int)<=((k+1:Nat):Int))&&decide (((k+1:Nat):Int)<((k+2:Nat):Int)))=true:=by simp;omega
  have bn:decide (v.getD (k+1) 0≠0)=true:=w4 ae;rw[e0];refine zl (AA ..) (zc (by simp) ?_);rw[B,L,e2,e3,zh,zh,zh,g1,g2,F,et,em,hll];refine zc (by simp;omega) (zc (w4 ae)<|zc (by simp;omega)<|zc (w4 ae)<|zc J<|zc bn<|zc J<|zc bn ?_);refine DE 1 (h+1) (h-(k+2)+1) _ [f] v lo r _ _ _ k j B ae n ae ae ae ae (by simp;omega) w e H I X R D (((r.getD (k+2) 0*1000000000+r.getD (k+1) 0)/v.getD (k+1) 0).toNat+1) _ _ E ae ae ⟨W,by omega⟩ x ?_;rw[hW,hV];exact O1 hP af E V gv2.1 s S.2 x U
theorem As(a v:List Int)(n b:Nat)(f:Int)(d:a.length=b)(c:b<=9000)(e:n<=b)(i:∀u:List Int,u.length=b+1->AD zd u->ze zd u=ze zd a*f->Ends NJ (L2 1 v n (b+1) (b-n+1) (((b-n+1:Nat):Int)-1) (zq (b-n+1) 0) u [f]) Q):
  ∀(m:Nat) (u:List Int),u.length+m=b+1->AD zd u->ze zd u=ze zd a*f->Ends NJ (L1 a 1 v n u.length u [f]) Q
 |0,u,k,h,g=>by
  have j:zf .i64 ((a.length:Int)+1)=((b+1:Nat):Int):=by grind [wr]
  have o:zf .i64 ((u.length:Int)-(n:Int))=((b-n+1:Nat):Int):=by grind [wr]
  have l:zf .i64 (((b-n+1:Nat):Int)-1)=((b-n+1:Nat):Int)-1:=wr _ ae ae;refine zl (Al ..) ?_;conv=>zeta
  grind [zo,zc]
 |m+1,u,k,h,g=>by
  have j:zf .i64 ((a.length:Int)+1)=((b+1:Nat):Int):=by grind [wr]
  refine zl (Al ..) ?_;conv=>zeta
  refine zc ah (zc ah ?_);have:=As a v n b f d c e i m (u++[0]) ah (Gs h af) (by rw[CH,Int.mul_zero,Int.add_zero];exact g);grind
set_option maxHeartbeats 1000000 in
theorem ok:Ae A1 147 TM:=by
 refine AX (X:=NJ) rfl Ac8 (d:=9) (by rfl) (by rfl) (by rfl) (fun(i:List Int×List Int) C=>?_) (Ak ag);obtain⟨a,b⟩:=i;have C:(Bh a&&Bh b&&decide (a.length<=9000)&&decide (b.length<=9000)&&decide (0<Ar b))=true:=C;rw[zi,zi,zi,zi,w5,w5,w5]at C;obtain⟨⟨⟨⟨na,nb⟩,la9⟩,lb9⟩,h⟩:=C;obtain⟨_,da,za⟩:=BB na;obtain⟨_,db,zb⟩:=BB nb;have h:0<ze zd b:=h;have n:=AJ (b:=zd) af da;have U:∀q r ob,q=B0 (Ar a/Ar b)->r=B0 (Ar a % Ar b)->Ac TM (a,b) (PV.tup [PV.dat li q,PV.dat li r]) ob:=fun q r ob G K=>zy rfl rfl (Prod.ext G K)
 have m:b≠[]:=by rintro rfl;simp[ze]at h
 have E:b.length≠0:=ah;refine zr (Ai a b) (zc ah<|zm (fun c=>?_)<|fun c=>?_)
 ·have c:=w6 c;have s:ze zd a<ze zd b:=by
   unfold Cd at c;have c:(if ze zd a<ze zd b then(-1:Int)else if ze zd a>ze zd b then 1 else 0)<0:=c;omega
  refine zj<|zy rfl rfl ?_;show([],a)=(B0<|ze zd a/ze zd b,B0<|ze zd a % ze zd b);rw[Int.ediv_eq_zero_of_lt n s,Int.emod_eq_of_lt n s];exact Prod.ext rfl (JO af da za)
 ·have c:=w7 c;have hge:ze zd b<=ze zd a:=by
   rcases yv (ze zd a) (ze zd b)with g|g
   ·simp_all [Cd,Ar]
   omega
  have hll:b.length<=a.length:=by
   rcases Nat.lt_or_ge a.length b.length with g|g
   ·have:=Ft (b:=zd) af da db zb g;omega
   omega
  refine zm (fun A=>?_)<|fun A=>?_
  ·have A:b.length=1:=by
    grind
   obtain⟨d,rfl⟩:=qg.1 A;have hd:0<d/\d<1000000000:=Hy (k:=0) db zb rfl;have m0:=qh (ze zd a) (show d≠0 by omega);have m1:=yw (ze zd a) hd.1;refine zc rfl (zc (by grind [ND])<|zc rfl (zj<|U _ _ _ ?_ ?_))
   ·show B0 (ze zd a/d)=B0 (ze zd a/ze zd [d]);rw[ET]
   ·show AE [ze zd a % d]=B0 (ze zd a % ze zd [d]);rw[ET,F8<|fun x o=>by rw[List.mem_singleton]at o;subst o;show 0<=_/\_<(1000000000:Int);omega];show B0 (ze zd [_])=_;rw[ET]
  ·have A:b.length≠1:=by
    grind
   obtain⟨k,B⟩:∃k,b.length=k+2:=⟨b.length-2,by omega⟩;obtain⟨y0,y1⟩:=Hy (k:=k+1) db zb B;have G:zf .i64 (((k+2:Nat):Int)-1)=((k+1:Nat):Int):=by grind [wr]
   have K:zf .i64 (b.getD (k+1) 0+1)=b.getD (k+1) 0+1:=wr _ ae ae;have f0:0<1000000000/(b.getD (k+1) 0+1):=by
    have:=Int.le_ediv_of_mul_le (a:=1) (b:=1000000000) (c:=b.getD (k+1) 0+1) ae ae;omega
   have f1:1000000000/(b.getD (k+1) 0+1)<1000000000:=Int.ediv_lt_of_lt_mul ae ae;have f2:1000000000/(b.getD (k+1) 0+1)*(b.getD (k+1) 0+1)<=1000000000:=Int.ediv_mul_le _ ae;have e3:zf .i64 (y9 1000000000<|b.getD (k+1) 0+1)=1000000000/(b.getD (k+1) 0+1):=by
    grind [wr]
   rw[B,G,zh,K,e3];generalize 1000000000/(b.getD (k+1) 0+1)=f at*;have I:AD zd [f]:=fun x o=>by rw[List.mem_singleton]at o;subst o;show 0<=_/\_<(1000000000:Int);omega
   have J:Ar [f]=f:=ET f;rw[J];have O:(zd:Int)^(k+1)<=ze zd b*f:=by
    have a1:=DP (b:=zd) af db zb m;rw[B,show k+2-1=k+1 by omega]at a1;have a2:=zk (show 1<=f by omega)<|z8 h;omega
   have P:ze zd b*f<(zd:Int)^(k+2):=by
    have b1:ze zd b=ze zd (b.take<|k+1)+(zd:Int)^(k+1)*b.getD (k+1) 0:=by
     rw[<-AN,zn ae]
    have b2:=BD (b:=zd) af<|AW db<|k+1;rw[z7,yu ae]at b2;have hp:=Bn (b:=zd) af<|k+1;have b3:ze zd b<(zd:Int)^(k+1)*(b.getD (k+1) 0+1):=by
     rw[yd,Int.mul_one];omega
    have b4:=ye b3 f0;have b5:=zk f2<|z8 hp;have b6:(zd:Int)^(k+2)=(zd:Int)^(k+1)*1000000000:=yo ..;rw[y7,ya (b.getD (k+1) 0+1) f]at b4;omega
   have F:0<=ze zd b*f:=yc (z8 h) ae;have p:0<=ze zd a*f:=yc n ae;have R:ze zd a*f<(zd:Int)^(a.length+1):=by
    have a1:=BD (b:=zd) af da;have a2:=ye a1 f0;have a3:=zk (show f<=1000000000 by omega) (z8<|Bn (b:=zd) af a.length);have a4:(zd:Int)^(a.length+1)=(zd:Int)^a.length*1000000000:=yo ..;omega
   have vd:=Gz (b:=zd) af<|ze zd b*f;have Y:=cQ (b:=zd) af<|ze zd b*f;have D:ze zd (Sp.dg zd<|ze zd b*f)=ze zd b*f:=Du af F;have S:=vE (b:=zd) af vd Y (k:=k+1) (by rw[D];exact O) (by rw[D];exact P);have v1:=(Hy vd Y S).1;have ud:=Gz (b:=zd) af<|ze zd a*f;have uv:ze zd (Sp.dg zd<|ze zd a*f)=ze zd a*f:=Du af p;have T:=Qn (k:=a.length+1) p R;have w:Sp.hR [f]=true:=fW (by simp) I;have bd:decide ((3*(0+(B0<|Ar a*f).length)+2000)*8<=562949953421312)=true:=w4 (by have:(B0<|Ar a*f).length<=a.length+1:=T;omega);refine zc (by simp;omega) (zc (w4 ae) (zc (by rw[fW lb9 db,w];rfl)<|zc (by rw[fW la9 da,w];rfl)<|zc bd ?_));have ez:qn 0 (B0<|Ar a*f).length=(B0<|Ar a*f).length:=qf _;have v:(B0<|Ar b*f).length=k+2:=S;rw[ez,List.nil_append,v];refine As a (B0<|Ar b*f) (k+2) a.length f rfl la9 ae (fun u H t N=>?_) (a.length+1-(B0<|Ar a*f).length) (B0<|Ar a*f) (by have:(B0<|Ar a*f).length<=a.length+1:=T;omega) ud uv;have z:=Bn (b:=zd) af<|a.length-(k+2)+1;have start:ze zd (u.drop<|a.length-(k+2)+1)<ze zd (B0<|Ar b*f):=by
    have a1:=CG zd u (a.length-(k+2)+1) ae;have a2:=AJ (b:=zd) af<|AW t<|a.length-(k+2)+1;have a3:=BD (b:=zd) af da;have a4:=ye a3 f0;have a5:(zd:Int)^a.length=(zd:Int)^(a.length-(k+2)+1)*(zd:Int)^(k+1):=by rw[<-Int.pow_add,show a.length-(k+2)+1+(k+1)=a.length by omega]
    have V:=DP (b:=zd) af db zb m;rw[B,show k+2-1=k+1 by omega]at V;have a7:=zt V (show 0<=f by omega);have a8:=zk a7<|z8 z;rw[a5,y7]at a4;show _<ze zd (Sp.dg zd<|ze zd b*f);rw[D];refine yp (a:=(zd:Int)^(a.length-(k+2)+1)) ?_<|z8 z;omega
   have go:=Bc (Q:=Ac TM (a,b)) (B0<|Ar b*f) k a.length f ⟨f0,f1⟩ v la9 ae vd (by have:0<(B0<|Ar b*f).getD (k+1) 0:=v1;omega) (ze zd a*f) (fun Z l ob y L j W=>by
    have M:ze zd (B0<|Ar b*f)=ze zd b*f:=D;rw[M]at W j;have e:ze zd Z=f*(ze zd a-ze zd l*ze zd b):=by
     have x1:ze zd b*f*ze zd l=f*(ze zd l*ze zd b):=by
      rw[ya (ze zd b) f,y7,ya<|ze zd b]
     rw[x1,ya<|ze zd a]at W;rw[Int.mul_sub];omega
    have h0:=AJ (b:=zd) af y;have r0:0<=ze zd a-ze zd l*ze zd b:=by
     rw[e]at h0;exact Int.nonneg_of_mul_nonneg_right h0 f0
    have r1:ze zd a-ze zd l*ze zd b<ze zd b:=by
     rw[e,ya (ze zd b) f]at j;exact yp j ae
    obtain⟨u1,u2⟩:=(Int.ediv_emod_unique (a:=ze zd a) (b:=ze zd b) (r:=ze zd a-ze zd l*ze zd b) (q:=ze zd l) h).2 ⟨by rw[ya<|ze zd b];omega,r0,r1⟩;refine U _ _ ob ?_ ?_
    ·rw[F8 L];show B0 (ze zd l)=B0 (ze zd a/ze zd b);rw[u1]
    ·show B0 (ze zd Z/f)=B0 (ze zd a % ze zd b);rw[u2,e,Int.mul_ediv_cancel_left _ ae]) (a.length-(k+2)+1) u [] (by simp) H t (fun x o=>by cases o) start (by rw[N];simp[ze])
   grind
end T147
theorem AcR:Cr XG3:=Aa T147.ok AI
namespace T141
theorem As(g:Nat)(L:Int)(b:∀n:Nat,(n:Int)<L->Bh (B0 (n:Int))=true/\Ar (B0 (n:Int))=n/\(B0 (n:Int)).length<=9000)(j:∀ob,Q (.dat li<|B0 (g:Int)) ob):∀(f x y:Nat),y<f->Nat.gcd x y=g->(x:Int)<L->(y:Int)<L->
  Ends XG3 (L1 (B0 (x:Int))<|B0 (y:Int)) Q
 |0,x,y,h,_,_,_=>by omega
 |f+1,x,y,k,c,i,a=>by
  obtain⟨nx,d,m⟩:=b x i;obtain⟨ny,vy,ly⟩:=b y a
  refine zl (Al ..) ?_;conv=>zeta
  by_cases h0:y=0
  ·subst h0;rw[Nat.gcd_zero_right]at c;subst c;exact zo rfl (by simp_all)
  ·have e:x % y<y:=Nat.mod_lt _ ae;have l:(B0 (y:Int)).length≠0:=by
    grind [Ar,ze]
   rw[d,vy,Xs];refine zc ah (zc ah ?_);exact As g L b j f y (x % y) ae (by grind [Nat.gcd_comm,Nat.gcd_rec]) a ae
theorem W4{a:List Int}(h:Bh a=true):a=B0 (Ar a)/\0<=Ar a:=by
 obtain⟨_,d,z⟩:=BB h;exact⟨JO af d z,AJ af d⟩
theorem aE(n:Nat)(h:(n:Int)<(zd:Int)^9000):Bh (B0 (n:Int))=true/\Ar (B0 (n:Int))=n/\(B0 (n:Int)).length<=9000:=by
 obtain⟨a,_,b,c⟩:=GJ (n:=(n:Int)) (k:=9000) ae h af;grind
theorem ok:Ae A1 141 MO:=by
 refine AX (X:=XG3) rfl AcR (d:=9) (by rfl) (by rfl) (by rfl) (fun(i:List Int×List Int) c=>?_) (Ak ag);obtain⟨a,b⟩:=i;have c:(Bh a&&Bh b&&decide (a.length<=9000)&&decide (b.length<=9000))=true:=c;rw[zi,zi,zi,w5,w5]at c;obtain⟨⟨⟨na,nb⟩,la9⟩,lb9⟩:=c;obtain⟨ea,a0⟩:=W4 na;obtain⟨eb,b0⟩:=W4 nb;have f:Ar a<(zd:Int)^9000:=zz (BD (b:=zd) af (BB na).2.1) (AY af la9);have h:Ar b<(zd:Int)^9000:=zz (BD (b:=zd) af (BB nb).2.1) (AY af lb9);have key:∀(x y:Nat),Ar a=x->Ar b=y->Ends XG3 (L1 a b) (Ac MO (a,b)):=by
  intro x y g j;rw[ea,eb,g,j];rw[g]at f;rw[j]at h;refine As (Nat.gcd x y) _ aE (fun ob=>zy rfl rfl ?_) (y+1) x y ae rfl f h;have e:qc (Ar<|B0 (x:Int)) (Ar<|B0 (y:Int))=((Nat.gcd x y:Nat):Int):=by
   rw[(aE x f).2.1,(aE y h).2.1,HL];rfl
  exact wi B0 e.symm
 obtain⟨x,g⟩:=yj a0;obtain⟨y,j⟩:=yj b0;exact zr (Ai a b) ah
end T141
theorem Aas:Cr mB:=
 Aa (G4 ag<|Ak ag) (Aa (G4 ag<|Ak ag)<|Aa (G4 ag<|Ak ag)<|Aa (G4 ag<|Ak ag) AI)
theorem FB:Cr Mh:=fun g sp h=>by cases h
namespace T236
theorem AhG:∀i:Fin 10,(DT.getD i.1 0).toNat<128:=af
theorem FD(s:Z)(i:Nat)(o:List Bool)(c:i<10)(d:o.length=256)(h:Ends mB (L2 s DT DT ((i+1:Nat):Int)<|o.set (DT.getD i 0).toNat true) Q):Ends mB (L2 s DT DT (i:Int) o) Q:=by
 have b:DT.length=10:=rfl;have a:=AhG ⟨i,c⟩;have a:(DT.getD i 0).toNat<128:=a;have e:=wn (i:=i) ae;refine zl (AA ..) ?_;conv=>zeta
 rw[b,e,zh,zh];exact zc (w4 ae) (zc (ad ae ae) (zo (w8 ae) (zc (Ab (w4<|show(0:Int)<=((DT.getD i 0).toNat:Int)by omega)<|w4 ae)<|zc (w4 ae) h)))
def Tb(o:List Bool):Prop:=o.length=256/\∀c:UInt8,o.getD c.toNat false=B7 c
theorem CO(s t v0:Z)(v4:Int)(h:List Bool)(b:Z)(o1 f:List Bool)(p1 p0:List Bool)(g:Tb p1):∀(w:Z),(∀ob,Q (.dat .str<|w.dropWhile B7) ob)->Ends mB (L7 s t v0 v4 h b o1 f w p1 p0) Q
 |[],a=>zl (C6 ..) (zo (by simp)<|zj<|a _)
 |c::r,a=>by
  have j:c.toNat<256:=c.toNat_lt;have i:(c::r).getD 0 0=c:=rfl;have e:(qd 1 (c::r)).take (ym (c::r).length 1)=r:=by show r.take ((r.length+1)-1)=r;rw[yx];exact yf
  refine zl (C6 ..) ?_;conv=>zeta
  rw[i,zh,g.2,g.1,e];refine zc (by simp) (zc (by simp)<|zc (Ab (w4<|show(0:Int)<=(c.toNat:Int)by omega)<|w4 ae) (zc (w4 j)<|zm (fun d=>?_)<|fun d=>zc (by simp) ?_))
  ·have d:B7 c=false:=by simpa using d
   rw[yi,wc<|by rw[d];decide]at a;exact zj<|a _
  ·have d:B7 c=true:=by simpa using d
   rw[yi,wd d]at a;exact CO s t v0 v4 h b o1 f p1 p0 g r a
theorem Ck(s t v0:Z)(v4:Int)(h:List Bool)(o1 a:List Bool)(g:Tb o1):∀(n:Nat) (w:Z),w.length=n->n<=1000000->(∀ob,Q (.dat .str<|((w.reverse.dropWhile B7).reverse).dropWhile B7) ob)->Ends mB (L4 s t v0 v4 h w o1 a) Q
 |0,w,e,_,b=>by
  have:w=[]:=yq.1 e;subst this;exact zl (BX ..) (zo (by simp)<|zl (DM ..)<|zo (by simp)<|zj<|b _)
 |n+1,w,e,l,b=>by
  obtain⟨p,c,rfl⟩:∃p c,w=p++[c]:=by
   have f:w≠[]:=by rintro rfl;simp at e
   exact⟨w.dropLast,w.getLast f,(yt f).symm⟩
  have hp:p.length=n:=by simpa using e
  have k:c.toNat<256:=c.toNat_lt;have j:zf .i64 (((p++[c]).length:Int)-1)=(n:Int):=by rw[e,wr _ ae ae];omega
  have i:(p++[c]).getD n 0=c:=GN _ _ _ _ hp;have t1:(p++[c]).take n=p:=by rw[<-hp];exact List.take_left
  have hr:(p++[c]).reverse=c::p.reverse:=by simp
  rw[hr,yi]at b;refine zl (BX ..) (zc (w4 ae) ?_);rw[j,zh,i,t1,zh,g.2,g.1,e];refine zc (by simp;omega) (zc (Ab (w4<|show(0:Int)<=(c.toNat:Int)by omega)<|w4 ae) (zc (w4 k)<|zm (fun d=>?_)<|fun d=>zc (by simp) ?_))
  ·have d:B7 c=false:=by simpa using d
   rw[wc (by rw[d];decide),List.reverse_cons,List.reverse_reverse]at b;exact CO s t v0 v4 h _ o1 a o1 a g (p++[c]) b
  ·have d:B7 c=true:=by simpa using d
   rw[wd d]at b;exact Ck s t v0 v4 h o1 a g n p hp ae b
theorem Ag2{o:List Bool}(b:o.length=256)(a:∀c:Fin 256,o.getD c.1 false=(Nat.ble 48 c.1&&Nat.ble c.1 57)):Tb o:=by
 refine⟨b,fun c=>?_⟩;have:=a ⟨c.toNat,c.toNat_lt⟩;rw[show o.getD c.toNat false=_ from this];unfold B7;rw[qi];simp[Nat.ble_eq]
set_option maxRecDepth 10000 in
theorem ok:Ae A1 236 ZO:=by
 refine C3 Aas<|fun(i:Z×Z) a=>?_;obtain⟨s,t⟩:=i;have a:(decide (t=DT)&&decide (s.length<=1000000))=true:=a;rw[zi,w5,w5]at a;obtain⟨rfl,hl⟩:=a;have b:∀ob,Ac ZO (s,DT) (.dat .str<|((s.reverse.dropWhile B7).reverse).dropWhile B7) ob:=fun ob=>zy rfl rfl rfl
 refine zr (Ai s DT) (zm (fun c=>?_)<|fun c=>zo af<|zo af ?_)
 ·have c:s=[]:=by simpa using c
  subst c;exact zj<|b _
 ·refine FD s 0 _ af rfl (FD s 1 _ af rfl (FD s 2 _ af rfl (FD s 3 _ af rfl (FD s 4 _ af rfl (FD s 5 _ af rfl (FD s 6 _ af rfl (FD s 7 _ af rfl (FD s 8 _ af rfl (FD s 9 _ af rfl ?_)))))))));refine zl (AA ..) (zo af<|zc (by decide+kernel) (zc (by decide+kernel)<|zc (by decide+kernel)<|zc rfl (Ck s _ _ _ _ _ _ (Ag2 rfl ?_) s.length s rfl hl b)));decide+kernel
end T236
theorem Ab9:Cr XH1:=Aa T236.ok AI
theorem dropWhile_nil{p:UInt8->Bool}:∀ {l:Z},l.dropWhile p=[]↔l.all p=true
 |[]=>by simp
 |a::l=>by
  rw[yi,qm];cases h:p a with
  |true=>simp only[wk,yk];exact dropWhile_nil
  |false=>simp
theorem JD{p:UInt8->Bool}:∀ {l:Z} {a:UInt8} {r:Z},l.dropWhile p=a::r->p a=false
 |[],a,r,h=>by simp at h
 |b::l,a,r,h=>by
  rw[yi]at h;cases c:p b with
  |true=>rw[c,wd rfl]at h;exact JD h
  |false=>
   rw[c]at h;simp at h;rw[<-h.1];exact c
theorem Og(s:Z):QP s=[]↔Au s=true:=by
 unfold QP Au;rw[dropWhile_nil,qe];constructor
 ·intro h;cases b:s.reverse.dropWhile B7 with
  |nil=>have:=dropWhile_nil.1 b;rwa [qe]at this
  |cons a r=>
   rw[b,qm,JD b]at h;cases h
 ·intro h;have:s.reverse.dropWhile B7=[]:=dropWhile_nil.2 (by rwa [qe]);rw[this];rfl
theorem T201.ok:Ae A1 201 ZS:=by
 refine C3 Ab9<|fun(s:Z) f=>?_;have f:s.length<=1000000:=w6 f;have a:∀v b ob,v=.bl b\/v=.dat .bool b->b=A6 s->Ac ZS s v ob:=by
  rintro v b ob (rfl|rfl) g
  ·exact zy rfl rfl g
  ·exact zy rfl rfl g
 refine zr (T201.Ai s)<|zm (fun c=>zc ?_<|zm (fun d=>zc ?_<|zm (fun e=>zj<|a _ _ _ (.inl rfl) ?_)<|fun e=>zj<|a _ _ _ (.inr rfl) ?_)<|fun d=>zj<|a _ _ _ (.inl rfl) ?_)<|fun c=>zj<|a _ _ _ (.inl rfl) ?_
 ·exact Ab (w4 rfl)<|w4 f
 ·have c:s≠[]:=by simpa using c
  have:s.length≠0:=fun h=>c<|yq.1 h
  exact w4 ae
 ·have c:s≠[]:=by simpa using c
  have d:QP s=[]:=by simpa using d
  have d:=(Og s).1 d;have e:s.getD 0 0≠48:=by
   intro h;rw[h]at e;exact wh e af
  unfold A6;rw[d,w4 c,w4 e];rfl
 ·have c:s≠[]:=by simpa using c
  have d:QP s=[]:=by simpa using d
  have d:=(Og s).1 d;have e:s.getD 0 0=48:=by
   have:((s.getD 0 0).toNat:Int)=48:=by simpa using e
   exact yh.1 (by show _=48;omega)
  unfold A6;rw[d,w4 c,w8<|by rw[e];exact fun h=>h rfl];show(s==[48])=decide (s=[48]);rw[qi];simp
 ·have d:¬QP s=[]:=by simpa using d
  have d:Au s=false:=by
   cases h:Au s with
   |true=>exact wh ((Og s).2 h) d
   |false=>rfl
  unfold A6;rw[d];simp
 ·have c:s=[]:=by simpa using c
  subst c;rfl
theorem T200.ok:Ae A1 200 Adx:=by
 refine C3 FB<|fun(i:Z×Z) b=>?_;obtain⟨s,t⟩:=i;have b:(decide (t=[45])&&decide (s.length<=1000000))=true:=b;rw[zi,w5,w5]at b;obtain⟨rfl,hl⟩:=b;have a:s.getD 0 0≠45->(s,false)=(A9 s,qk s):=fun h=>by
  unfold A9 qk;rw[wc h,w8 h]
 refine zr (T200.Ai s [45]) ?_;conv=>zeta
 cases s with
 |nil=>exact zo af (zj<|zy rfl rfl (a af))
 |cons c r=>
  have f:(c::r).take 1=[c]:=rfl;refine zc (by simp;omega) (zc (by simp) ?_);show Ends Mh (.ite (!List.take 1 (c::r)==[45]) _ _) _;rw[f];refine zm (fun d=>zj<|zy rfl rfl (a ?_)) (fun d=>zc (by simp)<|zj<|zy rfl rfl ?_)
  ·show c≠45;rintro rfl;exact wh d af
  ·have d:c=45:=by simpa using d
   subst d;show(((qd 1 ((45:UInt8)::r)).take<|ym ((45:UInt8)::r).length 1),true)=(A9 (45::r),qk (45::r));have e:(qd 1 ((45:UInt8)::r)).take (ym ((45:UInt8)::r).length 1)=r:=by show r.take ((r.length+1)-1)=r;rw[yx];exact yf
   rw[e];rfl
theorem Agt{F:Fz}{s:Z}{c:Int}{args:List V}(h:NK F (Af [Sh.str,Sh.int .u8] (s,c)) args):args=[.str s,.int .u8 c]:=by
 have:=h (fun _=>none) 0;simp only[Af,Cx,Ca]at this;obtain⟨a,g,rfl,e,b,f,rfl,d,rfl⟩:=this;simp only[PR,DC,List.cons.injEq,ve]at e d;rw[e,d]
theorem T280.ok:Ae A1 280 AdS:=by
 refine .inr ⟨PK.indexByte.run,by kernel_rfl,fun F h args i a hp=>?_⟩;obtain⟨s,c⟩:=i;have:=Agt a;subst this;refine⟨XJ<|s.findIdx? fun x=>x==c.toNat.toUInt8,rfl,fun ρ N=>?_⟩;show PR F ρ N (.dat i64<|Rh s c) _;unfold Rh;cases s.findIdx? fun x=>x==c.toNat.toUInt8 with
 |none=>simp[PR,DC,XJ]
 |some i=>simp[PR,DC,XJ,Det.i64]
theorem Ac4:Cr XH2:=Aa T280.ok AI
theorem Zw{p:UInt8->Bool}{s:Z}{i:Nat}(h:s.findIdx? p=some i):i<s.length:=(List.findIdx?_eq_some_iff_getElem.1 h).1
theorem T159.ok:Ae A1 159 vX:=by
 refine C3 Ac4<|fun(i:Z×Z) e=>?_;obtain⟨s,t⟩:=i;have e:(decide (t=[47])&&decide (s.length<=1000000))=true:=e;rw[zi,w5,w5]at e;obtain⟨rfl,hl⟩:=e;have a:s.any (fun x=>x==47)=(s.findIdx? fun x=>x==47).isSome:=by
  rw[List.findIdx?_isSome]
 refine zr (T159.Ai s [47]) (zo af (zm (fun c=>?_)<|fun c=>zc af (zc af<|zc af ?_)))
 ·have c:s=[47]:=by
   have:[47]=s:=by simpa using c
   exact this.symm
  subst c;exact zc rfl (zc rfl (zc rfl (zj<|zy rfl rfl rfl)))
 ·have b:Rh s (((([47]:Z).getD 0 0).toNat:Nat):Int)=match s.findIdx? (fun x=>x==47)with
   |some i=>(i:Int)
   |none=> -1:=rfl
  cases d:s.findIdx? (fun x=>x==47)with
  |none=>
   rw[d]at b;have b:Rh s (((([47]:Z).getD 0 0).toNat:Nat):Int)= -1:=b;rw[b];refine zo af<|zj<|zy rfl rfl ?_;show(s,[],false)=(AO s,z6 s,B1 s);unfold AO z6 B1;rw[a,d];rfl
  |some k=>
   rw[d]at b;have b:Rh s (((([47]:Z).getD 0 0).toNat:Nat):Int)=(k:Int):=b;have h:=Zw d;have f:zf .i64 ((k:Int)+(([47]:Z).length:Int))=((k+1:Nat):Int):=by
    show zf .i64 ((k:Int)+1)=_;rw[wr _ ae ae];omega
   rw[b,f,zh,zh];refine zc (by simp) (zc (by simp;omega)<|zc (by simp;omega)<|zj<|zy rfl rfl ?_);show(s.take k,(s.drop<|k+1).take<|ym s.length<|k+1,true)=(AO s,z6 s,B1 s);unfold AO z6 B1;have g:(s.drop<|k+1).take (ym s.length<|k+1)=s.drop (k+1):=zn (by rw[zp];exact yr _);rw[a,d,g];rfl
namespace T142
theorem As{Q:PV->Ob->Prop}(s:Z)(b:Au s=true)(n:s.length<=18)(g:∀ob,Q (.dat i64<|AK 0 s) ob):∀(r:Z) (i:Nat),s.drop i=r->i<=s.length->Ends mT (L1 s (AK 0<|s.take i) i) Q
 |[],i,h,f=>by
  have k:i=s.length:=drop_nil h f;subst k;rw[yf];exact zl (Al ..) (zo (by simp)<|zj<|g _)
 |c::r,i,h,f=>by
  obtain⟨t,p,l⟩:=drop_cons (d:=0) h;have m:=Br<|Bq b i;have a:(s.take i).length=i:=by rw[z7];omega
  rw[a]at m;have hp:(10:Int)^i<=10^17:=AY af ae;have w:B7 c=true:=by
   unfold Au at b;rw[y8]at b;exact b c<|oL h
  have v:=FN w;have q:48<=c.toNat/\c.toNat<=57:=by unfold O7 at v;omega
  have o:zf .i64 (c.toNat:Int)=(c.toNat:Int):=wr _ ae ae;have e:(10:Int)^17=100000000000000000:=af
  have u:zf .i64 (zf .i64 (zf .i64 (10*AK 0 (s.take i))+(c.toNat:Int))-48)=AK 0 (s.take<|i+1):=by
   rw[kU h,Dh];show _=10*AK 0 (s.take i)+((c.toNat:Int)-48);generalize AK 0 (s.take i)=D at*;rw[wr (10*D) ae ae,wr (10*D+(c.toNat:Int)) ae ae,wr _ ae ae];omega
  have j:=wn (i:=i) ae;refine zl (Al ..) (zc (by simp;omega) ?_);rw[zh,p,o,u,j];exact zc (by simp;omega)<|As s b n g r (i+1) l t
theorem ok:Ae A1 142 Vl:=by
 refine C3 Vi<|fun(s:Z) a=>?_;have a:(decide (s.length<=18)&&Au s)=true:=a;rw[zi,w5]at a;exact zr (Ai s)<|As s a.2 a.1 (fun ob=>zy rfl rfl rfl) s 0 rfl (Nat.zero_le _)
end T142
theorem AcP:Cr mW:=Aa T142.ok<|Aa T149.ok AI
theorem N0{neg:Bool}{w:List Int}{D:Int}(d:AD zd w)(c:ze zd w=D):(CY neg w,AE w)=(Sp.rN<|if neg=true then -D else D,Sp.rW<|if neg=true then -D else D):=by
 have h0:=AJ (b:=zd) af d;rw[c]at h0;have e:AE w=B0 D:=by rw[F8 d];show B0 (ze zd w)=_;rw[c]
 have a:B0 D=[]↔D=0:=oB af h0;have f:Aj (if neg=true then -D else D)=D:=by rw[An];split<;>omega
 unfold CY Sp.rW Sp.rN;rw[f,e];congr 1;cases neg with
 |false=>simp;omega
 |true=>
  simp only[wk,yk,wm,a,decide_eq_decide];omega
namespace T138
theorem AhF:(10:Int)^9=1000000000:=af
theorem Ko{s:Z}{m:Nat}(a:m+9=s.length):AK 0 s=AK 0 (s.take m)*1000000000+AK 0 (s.drop m):=by
 conv=>lhs;rw[<-yg m s]
 rw[Dh,Fv<|s.drop m,zp,show s.length-m=9 by omega,AhF]
theorem Da{s:Z}(a:Au s=true)(h:s.length<=9):0<=AK 0 s/\AK 0 s<1000000000:=by
 have:=Br a;have b:(10:Int)^s.length<=10^9:=AY af h;rw[AhF]at b;omega
theorem Cq{s:Z}(a:Au s=true)(h:s.length<=18):Ew s=true:=by
 unfold Ew;rw[a,Bool.and_true];exact w4 h
theorem DE(neg:Bool)(D:Int)(h:∀(w:List Int) ob,AD zd w->ze zd w=D->Q (.agg [.dat .bool<|CY neg w,.dat li<|AE w]) ob):∀(f:Nat) (s:Z) (o1:List Int),s.length<=f->Au s=true->o1.length+s.length<=6000->AD zd o1->ze zd o1+(zd:Int)^o1.length*AK 0 s=D->Ends mW (L3 s neg o1.length o1) Q:=by
 intro f;induction f with
 |zero=>
  intro s o1 l a j d c;have g:s.length<=9:=ae
  have b:=Da a g;have e:(o1++[B5 s]).take (qn o1.length 1)=o1++[B5 s]:=zn (by simp);refine zl (Bo ..) (zo (by simp;omega) (zc (Cq a ae)<|zc (by simp;omega) ?_));rw[e];refine zc (by simp;omega)<|zj<|h _ _ (Gs d b) ?_;rw[CH];exact c
 |succ f i=>
  intro s o1 l a j d c;by_cases g:s.length<=9
  ·have b:=Da a g;have e:(o1++[B5 s]).take (qn o1.length 1)=o1++[B5 s]:=zn (by simp);refine zl (Bo ..) (zo (by simp;omega) (zc (Cq a ae)<|zc (by simp;omega) ?_));rw[e];refine zc (by simp;omega)<|zj<|h _ _ (Gs d b) ?_;rw[CH];exact c
  ·obtain⟨m,n⟩:∃m,m+9=s.length:=⟨s.length-9,by omega⟩;have k:zf .i64 ((s.length:Int)-9)=(m:Int):=by rw[wr _ ae ae];omega
   have o:(s.drop m).take (ym s.length m)=s.drop m:=zn (by rw[zp];exact yr _);have b:=Da (Cj a m) (by rw[zp];omega);refine zl (Bo ..) (zc (by simp;omega) ?_);rw[k,zh,o];refine zc (by simp;omega) (zc (Cq (Cj a m)<|by rw[zp];omega) (zc (by simp;omega)<|zc (by simp;omega) ?_));have:=i (s.take m) (o1++[B5<|s.drop m]) (by rw[z7];omega) (Bq a m) (by simp;omega) (Gs d b) (by
    rw[CH,yb];show ze zd o1+(zd:Int)^o1.length*AK 0 (s.drop m)+(zd:Int)^(o1.length+1)*AK 0 (s.take m)=D;rw[Nx,ql, <-yd, <-c,Ko n];congr 2;omega)
   rw[yb]at this;exact this
theorem Ck(D:Int)(h:∀(w:List Int) ob,AD zd w->ze zd w=D->Q (.agg [.dat .bool<|CY false w,.dat li<|AE w]) ob):∀(f:Nat) (s:Z) (o1:List Int),s.length<=f->Au s=true->o1.length+s.length<=6000->AD zd o1->ze zd o1+(zd:Int)^o1.length*AK 0 s=D->Ends mW (L4 s o1.length o1) Q:=by
 intro f;induction f with
 |zero=>
  intro s o1 l a j d c;have g:s.length<=9:=ae
  have b:=Da a g;have e:(o1++[B5 s]).take (qn o1.length 1)=o1++[B5 s]:=zn (by simp);refine zl (BX ..) (zo (by simp;omega)<|zc (Cq a ae) (zc (by simp;omega) ?_));rw[e];refine zc (by simp;omega)<|zj<|h _ _ (Gs d b) ?_;rw[CH];exact c
 |succ f i=>
  intro s o1 l a j d c;by_cases g:s.length<=9
  ·have b:=Da a g;have e:(o1++[B5 s]).take (qn o1.length 1)=o1++[B5 s]:=zn (by simp);refine zl (BX ..) (zo (by simp;omega)<|zc (Cq a ae) (zc (by simp;omega) ?_));rw[e];refine zc (by simp;omega)<|zj<|h _ _ (Gs d b) ?_;rw[CH];exact c
  ·obtain⟨m,n⟩:∃m,m+9=s.length:=⟨s.length-9,by omega⟩;have k:zf .i64 ((s.length:Int)-9)=(m:Int):=by rw[wr _ ae ae];omega
   have o:(s.drop m).take (ym s.length m)=s.drop m:=zn (by rw[zp];exact yr _);have b:=Da (Cj a m) (by rw[zp];omega);refine zl (BX ..) (zc (by simp;omega) ?_);rw[k,zh,o];refine zc (by simp;omega) (zc (Cq (Cj a m)<|by rw[zp];omega) (zc (by simp;omega)<|zc (by simp;omega) ?_));have:=i (s.take m) (o1++[B5<|s.drop m]) (by rw[z7];omega) (Bq a m) (by simp;omega) (Gs d b) (by
    rw[CH,yb];show ze zd o1+(zd:Int)^o1.length*AK 0 (s.drop m)+(zd:Int)^(o1.length+1)*AK 0 (s.take m)=D;rw[Nx,ql, <-yd, <-c,Ko n];congr 2;omega)
   rw[yb]at this;exact this
theorem As(neg:Bool)(s:Z)(a:Au s=true)(i:s.length<=5999)(d:∀(w:List Int) ob,AD zd w->ze zd w=AK 0 s->Q (.agg [.dat .bool<|CY neg w,.dat li<|AE w]) ob):Ends mW (L1 s neg) Q:=by
 by_cases g:s.length<=9
 ·have c:=Da a g;refine zl (Al ..) (zo (by simp;omega)<|zc (Cq a ae) (zc rfl (zc rfl (zj<|d _ _ (Gs (l:=[]) (fun x b=>by cases b) c) ?_))));show ze zd [AK 0 s]=_;exact ET _
 ·obtain⟨m,e⟩:∃m,m+9=s.length:=⟨s.length-9,by omega⟩;have f:zf .i64 ((s.length:Int)-9)=(m:Int):=by rw[wr _ ae ae];omega
  have h:(s.drop m).take (ym s.length m)=s.drop m:=zn (by rw[zp];exact yr _);have c:=Da (Cj a m) (by rw[zp];omega);refine zl (Al ..) (zc (by simp;omega) ?_);rw[f,zh,h];refine zc (by simp;omega) (zc (Cq (Cj a m)<|by rw[zp];omega)<|zc rfl (zc (by simp;omega) ?_));refine DE neg (AK 0 s) d m (s.take m) [B5<|s.drop m] (by rw[z7];omega) (Bq a m) (by simp;omega) (Gs (l:=[]) (fun x b=>by cases b) c) ?_;rw[ET,Ko e];show AK 0 (s.drop m)+(zd:Int)^1*_=_;rw[yo,Int.pow_zero,yy,ya];exact Int.add_comm _ _
theorem Bc(s:Z)(a:Au s=true)(i:s.length<=5999)(d:∀(w:List Int) ob,AD zd w->ze zd w=AK 0 s->Q (.agg [.dat .bool<|CY false w,.dat li<|AE w]) ob):Ends mW (L2 s) Q:=by
 by_cases g:s.length<=9
 ·have c:=Da a g;refine zl (AA ..) (zo (by simp;omega)<|zc (Cq a ae) (zc rfl (zc rfl (zj<|d _ _ (Gs (l:=[]) (fun x b=>by cases b) c) ?_))));show ze zd [AK 0 s]=_;exact ET _
 ·obtain⟨m,e⟩:∃m,m+9=s.length:=⟨s.length-9,by omega⟩;have f:zf .i64 ((s.length:Int)-9)=(m:Int):=by rw[wr _ ae ae];omega
  have h:(s.drop m).take (ym s.length m)=s.drop m:=zn (by rw[zp];exact yr _);have c:=Da (Cj a m) (by rw[zp];omega);refine zl (AA ..) (zc (by simp;omega) ?_);rw[f,zh,h];refine zc (by simp;omega) (zc (Cq (Cj a m)<|by rw[zp];omega) (zc rfl (zc (by simp;omega) ?_)));refine Ck (AK 0 s) d m (s.take m) [B5<|s.drop m] (by rw[z7];omega) (Bq a m) (by simp;omega) (Gs (l:=[]) (fun x b=>by cases b) c) ?_;rw[ET,Ko e];show AK 0 (s.drop m)+(zd:Int)^1*_=_;rw[yo,Int.pow_zero,yy,ya];exact Int.add_comm _ _
theorem ok:Ae A1 138 PT:=by
 refine C3 AcP<|fun(s:Z) a=>?_;have a:(decide (s.length<=5999)&&(if s.getD 0 0=45 then Au (s.drop 1)else Au s))=true:=a;rw[zi,w5]at a;obtain⟨g,a⟩:=a;have fin:∀(neg:Bool) (D:Int),Bu s=(if neg=true then -D else D)->∀(w:List Int) ob,AD zd w->ze zd w=D->Ac PT s (.agg [.dat .bool<|CY neg w,.dat li<|AE w]) ob:=by
  intro neg D hr w ob i h;refine zy rfl rfl ?_;show(CY neg w,AE w)=(Sp.rN<|Bu s,Sp.rW<|Bu s);rw[hr];exact N0 i h
 refine zr (Ai s) ?_;conv=>zeta
 cases s with
 |nil=>exact zo af (Bc [] rfl af (fin false 0 rfl))
 |cons c r=>
  have f:(c::r).getD 0 0=c:=rfl;rw[f]at a;rw[f];refine zc (by simp) (zc (by simp)<|zm (fun d=>?_)<|fun d=>?_)
  ·have b:c=45:=by
    have:(c.toNat:Int)=45:=by simpa using d
    exact yh.1 (by show _=45;omega)
   rw[wd b]at a;have e:(qd 1 (c::r)).take (ym (c::r).length 1)=r:=by show r.take ((r.length+1)-1)=r;rw[yx];exact yf
   rw[d,e];refine zc (by simp) (As true r a (by simp at g;omega)<|fin true _ ?_);unfold Bu;rw[f,wd b,wd rfl];rfl
  ·have b:c≠45:=by
    rintro rfl;exact wh d af
   rw[wc b]at a;rw[d];refine As false (c::r) a g<|fin false _ ?_;unfold Bu;rw[f,wc b,wc af]
end T138
theorem Acq:Cr SU:=
 Aa T68n.ok (Aa T199.ok<|Aa T125.ok<|Aa T124.ok<|Aa T162.ok<|Aa (G4 (by rfl)<|Ak ag)<|Aa (G4 (by rfl)<|Ak ag) AI)
theorem Vm(k:Nat):F5 18 (k:Int)=((min 18 k:Nat):Int):=by grind [F5]
theorem Ad8(n:Int):zf .u8 n=n % 256:=by rfl
theorem Afg(k:Nat):(10:Int)^k<=(Av:Int)^k:=by
 induction k with
 |zero=>simp
 |succ k a=>
  grind
theorem Hp{n:Int}(h0:0<=n)(h:n<(10:Int)^(6000:Nat)):Bk (DB n)=true:=by
 refine Eh ?_;grind [An]
theorem Qa(m n:Int):FT (De m,Dd m) (De n,Dd n)=De (m*n)/\FV (De m,Dd m) (De n,Dd n)=Dd (m*n):=by
 constructor
 ·show De (zu (DB _)*zu (DB _))=_;rw[Dr,Dr]
 ·show Dd (zu (DB _)*zu (DB _))=_;rw[Dr,Dr]
theorem AbS{a b:AL}(h:0<=zu a+zu b):Fc a b=DB (zu a+zu b):=by
 unfold Fc;grind [Cn,DB,zu]
theorem Qq{m v:Int}(e:0<=m)(f:0<=v):LA (De m,Dd m) (v,BA v)=De (m+v)/\Lh (De m,Dd m) (v,BA v)=Dd (m+v):=by
 have c:zu (De m,Dd m)=m:=Dr m;have d:zu (v,BA v)=v:=by rw[Gy,Gf]
 have:=AbS (a:=(De m,Dd m)) (b:=(v,BA v)) ae;rw[c,d]at this;exact⟨wi Prod.fst this,wi Prod.snd this⟩
theorem PJ(n:Nat):Xj ((10:Int),BA (10:Int)) (n:Int)=De (10^n)/\X8 ((10:Int),BA (10:Int)) (n:Int)=Dd (10^n):=by
 simp_all [Z8,Gy,Gf,Xj,X8]
theorem xT:Bk ((10:Int),BA (10:Int))=true:=by rfl
theorem rV{n:Nat}(h:n<=18):Acs (zu ((10:Int),BA (10:Int))) (n:Int)=true:=by
 have c:(10:Int)^n<=10^18:=AY af h;have b:(10:Int)^18<18446744073709551616^1:=af
 have a:(18446744073709551616:Int)^(1:Nat)<=18446744073709551616^(4000:Nat):=ae;exact Ab (ad ae ae)<|w4<|Int.lt_of_le_of_lt c<|zz b a
theorem X1{v:Int}(h0:0<=v)(h:v<1000000000000000000):Bk (v,BA v)=true:=by
 rw[Gy];exact Ab (by grind [MV,FL]) (by rfl)
theorem cY{w:Z}(a:Au w=true)(h:w.length<=18):0<=AK 0 w/\AK 0 w<1000000000000000000:=by
 have:=Br a;have b:(10:Int)^w.length<=10^18:=AY af h;omega
namespace T160
theorem CO(W:Z)(neg:Bool)(u:Int)(i:List Int)(v:Int)(w:Z)(n:Nat)(D:w=W.take n)(hW:Au W=true)(q:n=min 18 W.length)(H:1<=W.length)(a f:Int)(a0:0<=a)(s:Bk (DB a)=true)(g:Bk (DB<|a*10^n)=true)
  (o:Ends SU (L5 (W.drop n) neg (De<|a*10^n+AK 0 w) (Dd<|a*10^n+AK 0 w) f) Q):
  ∀(r:Z) (j:Nat),w.drop j=r->j<=w.length->Ends SU (L7 W neg u i v w (AK 0<|w.take j) w.length w.length j (w.map fun b=>(b.toNat:Int)) (De a) (Dd a) f) Q
 |[],j,hr,h=>by
  have e:Au w=true:=by grind [Bq]
  have m:w.length=n:=ah
  have F:j=w.length:=drop_nil hr h;subst F;have k:=cY e ae;obtain⟨c,t,L⟩:∃c t,w=c::t:=by
   cases w with
   |nil=>grind
   |cons c t=>simp
  have p:((((w.getD 0 0).toNat:Int)==(45:Int))=false):=by
   unfold Au at e;grind [B7]
  have z:(W.drop n).take (ym W.length n)=W.drop n:=(by simp_all [zn]);have p0:0<=a*10^n:=yc a0 ah;have G:Bk (De<|10^n,Dd<|10^n)=true:=by
   refine HU (Hp (n:=(10:Int)^n) ah ?_);have M:(10:Int)^n<=10^18:=AY af ae;omega
  refine zl (C6 ..) (zo (by simp)<|zc ah ?_);rw[p,Vm, <-q,(PJ n).1,(PJ n).2,yf];refine zo rfl (zc rfl (zc (by grind [xT,rV])<|zc (Ab s G)<|zc rfl ?_));rw[(Qa _ _).1,(Qa _ _).2,(Qq p0 k.1).1,(Qq p0 k.1).2,zh,z];exact zc (Ab g<|X1 k.1 k.2) (by grind [zc])
 |c::r,j,hr,h=>by
  have e:Au w=true:=by grind [Bq]
  have m:w.length=n:=ah
  obtain⟨x,J,A⟩:=drop_cons (d:=0) hr;have l:B7 c=true:=by
   grind [Au]
  have K:=FN l;have I:=Br<|Bq e j;have hp:(10:Int)^j<=10^17:=AY af ae;have y:(w.map fun b=>(b.toNat:Int)).getD j 0=(c.toNat:Int):=by
   grind
  have C:zf .u8 ((c.toNat:Int)-48)=O7 c:=by
   grind [Ad8,O7]
  have B:zf .i64 (zf .i64 (AK 0 (w.take j)*10)+zf .i64 (O7 c))=AK 0 (w.take<|j+1):=by
   grind [Dh,AK,wr]
  have E:zf .i64 ((j:Int)+1)=((j+1:Nat):Int):=by grind [wr]
  refine zl (C6 ..) (zc ah ?_);rw[zh,y,C,B,E];refine zc ah (zc ah<|zo ah ?_);exact CO W neg u i v w n D hW q H a f a0 s g o r (j+1) A x
theorem DE(W:Z)(neg:Bool)(s:Int)(u:Int)(w:Z)(n:Nat)(C:w=W.take n)(hW:Au W=true)(q:n=min 18 W.length)(H:1<=W.length)(a f:Int)(o:a=0)(a0:0<=a)(E:Bk (DB a)=true)(g:Bk (DB<|a*10^n)=true)
  (m:Ends SU (L5 (W.drop n) neg (De<|a*10^n+AK 0 w) (Dd<|a*10^n+AK 0 w) f) Q):
  ∀(r:Z) (j:Nat),w.drop j=r->j<=w.length->Ends SU (L3 W neg s u w (AK 0<|w.take j) w.length w.length j (w.map fun b=>(b.toNat:Int)) 0 f) Q
 |[],j,hr,h=>by
  have e:Au w=true:=by grind [Bq]
  have l:w.length=n:=ah
  have F:j=w.length:=drop_nil hr h;subst F;have i:=cY e ae;obtain⟨c,t,L⟩:∃c t,w=c::t:=by
   cases w with
   |nil=>grind
   |cons c t=>simp
  have p:((((w.getD 0 0).toNat:Int)==(45:Int))=false):=by
   unfold Au at e;grind [B7]
  have y:(W.drop n).take (ym W.length n)=W.drop n:=(by simp_all [zn]);have p0:0<=a*10^n:=ah;have G:Bk (De<|10^n,Dd<|10^n)=true:=by
   refine HU (Hp (n:=(10:Int)^n) ah ?_);have M:(10:Int)^n<=10^18:=AY af ae;omega
  refine zl (Bo ..) (zo (by simp)<|zc ah ?_);rw[p,Vm, <-q,(PJ n).1,(PJ n).2,yf];refine zo rfl (zc rfl (zc (by grind [xT,rV])<|zc (Ab (by rfl) G)<|zc rfl ?_));rw[show FT ((0:Int),[]) (De<|10^n,Dd<|10^n)=De (a*10^n)by rw[o];exact(Qa 0 _).1,show FV ((0:Int),[]) (De<|10^n,Dd<|10^n)=Dd (a*10^n)by rw[o];exact(Qa 0 _).2,(Qq p0 i.1).1,(Qq p0 i.1).2,zh,y];exact zc (Ab g<|X1 i.1 i.2) (by grind [zc])
 |c::r,j,hr,h=>by
  have e:Au w=true:=by grind [Bq]
  have l:w.length=n:=ah
  obtain⟨v,J,z⟩:=drop_cons (d:=0) hr;have k:B7 c=true:=by
   grind [Au]
  have K:=FN k;have I:=Br<|Bq e j;have hp:(10:Int)^j<=10^17:=AY af ae;have x:(w.map fun b=>(b.toNat:Int)).getD j 0=(c.toNat:Int):=by
   grind
  have B:zf .u8 ((c.toNat:Int)-48)=O7 c:=by
   grind [Ad8,O7]
  have A:zf .i64 (zf .i64 (AK 0 (w.take j)*10)+zf .i64 (O7 c))=AK 0 (w.take<|j+1):=by
   grind [Dh,AK,wr]
  have D:zf .i64 ((j:Int)+1)=((j+1:Nat):Int):=by grind [wr]
  refine zl (Bo ..) (zc ah ?_);rw[zh,x,B,A,D];refine zc ah (zc ah<|zo ah ?_);exact DE W neg s u w n C hW q H a f o a0 E g m r (j+1) z v
theorem AbE(W:Z)(neg:Bool)(o1:Int)(a:List Int)(d:Int)(hW:Au W=true)(j:1<=W.length)(n:Nat)(g:n=min 18 W.length)
  (h:Ends SU (L7 W neg o1 a d (W.take n) 0 (W.take n).length (W.take n).length 0 ((W.take n).map fun b=>(b.toNat:Int)) o1 a d) Q):Ends SU (L5 W neg o1 a d) Q:=by
 have e:=Bq hW n;have f:((((W.take n).getD 0 0).toNat:Int)==(45:Int))=false/\((((W.take n).getD 0 0).toNat:Int)==(43:Int))=false:=by
  cases i:W.take n with
  |nil=>simp
  |cons c t=>
   unfold Au at e;grind [B7]
 refine zl (Dl ..) (zc ah ?_);rw[Vm, <-g,zh,f.1,f.2];exact zc ah (zc ah (zc ah<|zc ah<|zo rfl (zc ah<|zo rfl h)))
theorem AbN(W:Z)(neg:Bool)(o1:Int)(a:Int)(hW:Au W=true)(i:1<=W.length)(n:Nat)(f:n=min 18 W.length)
  (h:Ends SU (L3 W neg o1 a (W.take n) 0 (W.take n).length (W.take n).length 0 ((W.take n).map fun b=>(b.toNat:Int)) o1 a) Q):Ends SU (L1 W neg o1 a) Q:=by
 have d:=Bq hW n;have e:((((W.take n).getD 0 0).toNat:Int)==(45:Int))=false/\((((W.take n).getD 0 0).toNat:Int)==(43:Int))=false:=by
  cases g:W.take n with
  |nil=>simp
  |cons c t=>
   unfold Au at d;grind [B7]
 refine zl (Al ..) (zc ah ?_);rw[Vm, <-f,zh,e.1,e.2];exact zc ah (zc ah<|zc ah (zc ah<|zo rfl (zc ah<|zo rfl h)))
theorem Ae1(n:Int)(h:0<=n):(Fh (De n,Dd n),Fi (De n,Dd n))=DB (-n):=by
 show DH (DB n)=_;unfold DH;split
 ·next c=>
  have:=Dr n;rw[BZ c.1]at this;rw[this,CT (n:= -n)];by_cases a: -9223372036854775808<n/\n<9223372036854775808
  ·omega
  ·have e:DB n=(1,BI<|Aj n):=by simp_all [DB,wc]
   grind
 ·rw[Dr]
theorem iE{a D:Int}{W:Z}{n:Nat}(b:0<=a)(hW:Au W=true)(f:n<=W.length)(g:a*10^W.length+AK 0 W=D):(a*10^n+AK 0 (W.take n))*10^(W.drop n).length+AK 0 (W.drop n)=D/\a<=D/\a*10^n<=D:=by
 have h:AK 0 W=AK 0 (W.take n)*10^(W.drop n).length+AK 0 (W.drop n):=by
  grind [yg,Dh,Fv]
 have e:W.length=n+(W.drop n).length:=ah
 have d:=(Br hW).1;have one:∀k:Nat,(1:Int)<=10^k:=fun k=>by have:=Bn (show(0:Int)<10 by decide) k;omega
 have l1:a<=a*10^W.length:=by have:=zk (one W.length) b;omega
 have c:a*10^n<=a*10^n*10^(W.drop n).length:=by
  have:=zk (one (W.drop n).length) (yc b (show(0:Int)<=10^n by grind));omega
 grind
theorem C0(neg:Bool)(e D:Int)(d:D<(10:Int)^(6000:Nat))(o:∀ob,Q (.agg [.dat i64<|De<|if neg=true then -D else D,.dat (.nlist u64)<|Dd<|if neg=true then -D else D]) ob):∀(f:Nat) (W:Z) (a:Int),W.length<f->W.length<=6000->0<=a->Au W=true->a*10^W.length+AK 0 W=D->Ends SU (L5 W neg (De a) (Dd a) e) Q
 |0,W,a,l,_,_,_,_=>by omega
 |f+1,W,a,l,k,b,hW,h=>by
  cases i:W with
  |nil=>
   have h:a=D:=by grind [AK]
   subst h;have g:=Hp b d;refine zl (Dl ..) (zo (by simp)<|zm (fun c=>zc (Cg g).1<|zj ?_)<|fun c=>zj ?_)
   ·have:=Ae1 a b;have s:Fh (De a,Dd a)=De (-a):=wi Prod.fst this;have p:Fi (De a,Dd a)=Dd (-a):=wi Prod.snd this;grind
   grind
  |cons c t=>
   rw[<-i];have j:1<=W.length:=ah
   obtain⟨m,q,u⟩:=iE (n:=min 18 W.length) b hW ae h;have r:=(Br<|Bq hW<|min 18 W.length).1;have hp:0<=a*10^(min 18 W.length):=yc b ah;refine AbE W neg _ _ e hW j _ rfl (CO W neg _ _ e _ _ rfl hW rfl j a e b (by grind [Hp]) (by grind [Hp]) ?_ _ 0 rfl ae);exact C0 neg e D d o f (W.drop<|min 18 W.length) _ ah ah ae (Cj hW _) m
theorem As(neg:Bool)(W:Z)(h:W.length<=5999)(hW:Au W=true)(g:∀ob,Q (.agg [.dat i64<|De<|if neg=true then -AK 0 W else AK 0 W,.dat (.nlist u64)<|Dd<|if neg=true then -AK 0 W else AK 0 W]) ob)(i:W=[]->∀ob v,(v=.agg [.dat i64 0,.nil]\/v=.agg [.dat i64<|Fh ((0:Int),[]),.dat (.nlist u64)<|Fi ((0:Int),[])])->Q v ob):Ends SU (L1 W neg 0 0) Q:=by
 cases d:W with
 |nil=>
  refine zl (Al ..) (zo (by simp)<|zm (fun c=>zc af<|by simp_all)<|by simp_all)
 |cons c t=>
  rw[<-d];have e:1<=W.length:=ah
  have b:AK 0 W<(10:Int)^(6000:Nat):=zz (Br hW).2 (AY af ae);obtain⟨f,j,l⟩:=iE (a:=0) (n:=min 18 W.length) (D:=AK 0 W) ae hW ae ae;have k:=(Br<|Bq hW<|min 18 W.length).1;refine AbN W neg 0 0 hW e _ rfl (DE W neg 0 0 _ _ rfl hW rfl e 0 0 rfl ae af (by rw[Int.zero_mul];decide) ?_ _ 0 rfl ae);exact C0 neg 0 _ b g (W.length+1) (W.drop<|min 18 W.length) _ ah ah ae (Cj hW _) f
theorem ok:Ae A1 160 Rt:=by
 refine AX (X:=SU) rfl Acq (d:=9) (by rfl) (by rfl) (by rfl) (fun(s:Z) a=>?_) (Ak ag);have a:(decide (s.length<=5999)&&(if s.getD 0 0=45 then Au (s.drop 1)else Au s))=true:=a;rw[zi,w5]at a;obtain⟨l,a⟩:=a;have fin:∀D,Bu s=D->∀ob,Ac Rt s (.agg [.dat i64<|De D,.dat (.nlist u64)<|Dd D]) ob:=by
  rintro D rfl ob;exact zy rfl rfl rfl
 have b:Bu s=0->∀ob v,(v=.agg [.dat i64 0,.nil]\/v=.agg [.dat i64<|Fh ((0:Int),[]),.dat (.nlist u64)<|Fi ((0:Int),[])])->Ac Rt s v ob:=by
  rintro h ob v (rfl|rfl)
  ·refine zy rfl rfl ?_;show((0:Int),([]:List Int))=(De<|Bu s,Dd<|Bu s);rw[h];rfl
  ·refine zy rfl rfl ?_;show DH ((0:Int),([]:List Int))=(De<|Bu s,Dd<|Bu s);rw[h];rfl
 refine zr (Ai s) ?_;conv=>zeta
 cases s with
 |nil=>
  refine zo af (zo af<|zl (AA ..)<|zo af<|zj<|b rfl _ _ (.inl rfl))
 |cons c r=>
  have i:(c::r).take 1=[c]:=rfl;have j:(c::r).getD 0 0=c:=rfl;rw[j]at a;have e:(qd 1 (c::r)).take (ym (c::r).length 1)=r:=by simp
  have g:decide (((c::r).length:Int)>=1)=true:=ah;have f:decide (1<=(c::r).length)=true:=(by rfl);rw[i,e];refine zc g<|zc f<|zc g<|zc f<|zm (fun d=>?_)<|fun d=>?_
  ·have k:c=45:=ah
   rw[wd k]at a;rw[d];have hr:Bu (c::r)= -AK 0 r:=by simp_all [Bu]
   refine zc (by simp) (As true r ah a ah<|fun h0=>b<|by rw[hr,h0];rfl)
  simp_all [Bu,As]
end T160
namespace T202
theorem loop{Q:PV->Ob->Prop}(l:List Int)(g:l.length<=1000000):∀(r:List Int) (i:Nat),l.drop i=r->i<=l.length->Q (.dat i64<|qo r) []->Ends Mh (L1 l ((l.length:Int)) i) Q
 |[],i,h,k,a=>by
  refine zl (Al ..) ?_;conv=>zeta
  have:¬i<l.length:=by
   intro c;have:=List.drop_eq_getElem_cons c;rw[h]at this;cases this
  have e:i=l.length:=ae
  subst e;simpa [qo]using a
 |x::r,i,h,k,a=>by
  obtain⟨c,j,f⟩:=drop_cons (d:=0) h;refine zl (Al ..) ?_;conv=>zeta
  rw[FQ,wd (by simp;omega),FQ,wd (by simp;omega),FQ];simp only[zh,j];by_cases b:x=0
  ·subst b;rw[wc (by simp),wr _ ae ae];exact loop l g r (i+1) f c (by simpa [qo]using a)
  ·rw[wd<|by simpa using b];simpa [qo,b]using a
theorem ok:Ae A1 202 G6:=by
 refine C3 FB<|fun l a=>?_;refine zr (Ai l) ?_;conv=>zeta
 exact loop l (by simpa [G6]using a) l 0 rfl (Nat.zero_le _) (zy rfl rfl rfl)
end T202
theorem T203.ok:Ae A1 203 Hz:=by
 refine C3 FB<|fun⟨c,e⟩ _=>?_;refine zr (T203.Ai c e) ?_;conv=>zeta
 have key:∀x:Int,x=CB c e->Ac Hz (c,e) (.dat i64 x) []:=fun x a=>zy rfl rfl a
 simp only[FQ,Iv];cases c
 ·exact key _ rfl
 ·exact key _ rfl
theorem Ade:Cr N6:=
 Aa T202.ok (Aa T203.ok<|Aa T200.ok<|Aa T159.ok<|Aa T201.ok<|Aa T171.ok<|Aa T160.ok<|Aa T67.ok<|Aa T68n.ok AI)
theorem IB{s:Z}(h:A6 s=true):s≠[]/\Au s=true:=by
 unfold A6 at h;rw[zi,zi,w5]at h;exact h.1
theorem Mm{s:Z}(h:Au s=true)(b:s.length<=5999):DR s=true/\Bu s=AK 0 s:=by
 have h0:s.getD 0 0≠45:=by
  cases s with
  |nil=>decide
  |cons c r=>
   unfold Au at h;rw[qm,zi]at h;have:=FN h.1;rintro a;have a:c=45:=a;subst a;exact wh this af
 unfold DR Bu;rw[wc h0,wc h0,h,Bool.and_true];exact⟨w4 b,rfl⟩
theorem Ady{a b L:Int}(d:0<=a)(c:0<=b)(g:a<L)(f:b<L):0<=qc a b/\qc a b<L:=by
 rw[HL];obtain⟨x,rfl⟩:=yj d;obtain⟨y,rfl⟩:=yj c;have e:qq (x:Int) (y:Int)=Nat.gcd x y:=rfl;rw[e];refine⟨Int.natCast_nonneg _,?_⟩;rcases Nat.eq_zero_or_pos x with h|h
 ·subst h;rw[Nat.gcd_zero_left];exact f
 ·have:=Nat.gcd_le_left y h;omega
namespace T163
def E(A B:Z)(b a:Bool):Int:=if a=false then 1 else if 600<A.length\/600<B.length then 4 else if b=true/\qc (AK 0 A) (AK 0 B)≠1 then 1 else 0
theorem GA(A B:Z)(a:Bool)(i:Au A=true)(b:a=true->Au B=true)(y:A.length<=600)(z:B.length<=600)(e:∀ob,Q (.dat i64<|if a=true/\qc (AK 0 A) (AK 0 B)≠1 then 1 else 0) ob):Ends N6 (L8 A B a) Q:=by
 refine zl (DM ..)<|zm (fun c=>?_)<|fun c=>?_
 ·have b:=b c;obtain⟨s,j⟩:=Mm i ae;obtain⟨r3,r4⟩:=Mm b ae;have f:=Br i;have d:=Br b;have l:AK 0 A<(10:Int)^(6000:Nat):=zz f.2 (AY af ae);have k:AK 0 B<(10:Int)^(6000:Nat):=zz d.2 (AY af ae);have p:DL A=De (AK 0 A):=by unfold DL;rw[j]
  have w:DJ A=Dd (AK 0 A):=by unfold DJ;rw[j]
  have n:DL B=De (AK 0 B):=by unfold DL;rw[r4]
  have x:DJ B=Dd (AK 0 B):=by unfold DJ;rw[r4]
  have m:O2 (De<|AK 0 A,Dd<|AK 0 A) (De<|AK 0 B,Dd<|AK 0 B)=De (qc (AK 0 A)<|AK 0 B):=by
   unfold O2;rw[MX,MX]
  have u:O0 (De<|AK 0 A,Dd<|AK 0 A) (De<|AK 0 B,Dd<|AK 0 B)=Dd (qc (AK 0 A)<|AK 0 B):=by
   unfold O0;rw[MX,MX]
  obtain⟨l1,r⟩:=Ady f.1 d.1 l k;have t:XI (De<|qc (AK 0 A)<|AK 0 B,Dd<|qc (AK 0 A)<|AK 0 B) ((1:Int),BA (1:Int))=Cd (qc (AK 0 A)<|AK 0 B) 1:=by
   unfold XI;rw[MX,Gy,Gf]
  rw[p,w,n,x,m,u,t];have o:Bk ((1:Int),BA (1:Int))=true:=by rw[Gy];decide
  refine zc s<|zc r3<|zc (Ab (HU<|Hp f.1 l)<|HU<|Hp d.1 k)<|zc rfl (zc (Ab (HU<|Hp l1 r) o) ?_);refine zl (sS ..)<|zc rfl (zj ?_);generalize qc (AK 0 A) (AK 0 B)=g at*;have:CB (Cd g 1 !=0) 1=if a=true/\g≠1 then 1 else 0:=by
   unfold Cd CB;by_cases h:g=1
   ·subst h;rw[c];rfl
   ·have v:(if a=true/\g≠1 then(1:Int)else 0)=1:=wd ⟨c,h⟩;rw[v];rcases Int.lt_or_gt_of_ne h with q|q
    ·rw[wd q];rfl
    ·rw[wc ae,wd q];rfl
  rw[this];exact e _
 ·refine zl G2<|zc rfl (zj ?_);rw[wc<|by rw[c];simp]at e;exact e _
theorem CO(A B:Z)(e a c d:Bool)(l:c= !a)(f:d=true↔600<A.length\/600<B.length)(g:a=true->Au A=true/\(e=true->Au B=true))(b:∀ob,Q (.dat i64<|E A B e a) ob):Ends N6 (L7 A B e<|qo [CB c 1,CB d 4]) Q:=by
 subst l;unfold E at b;cases a with
 |false=>
  refine zl (C6 ..)<|zc ?_<|zj<|b _;cases d<;>rfl
 |true=>
  rw[wc af]at b;cases d with
  |true=>
   rw[wd<|f.1 rfl]at b;exact zl (C6 ..)<|zc rfl (zj<|b _)
  |false=>
   have j:¬(600<A.length\/600<B.length):=fun h=>by have:=f.2 h;cases this
   rw[wc j]at b;obtain⟨k,i⟩:=g rfl;exact zl (C6 ..) (zo rfl (GA A B e k i ae ae b))
theorem Ck(A B:Z)(b a:Bool)(d:a=true->Au A=true/\(b=true->Au B=true))(e:∀ob,Q (.dat i64<|E A B b a) ob):Ends N6 (L4 A B b a) Q:=by
 refine zl (BX ..)<|zc rfl (zm (fun c=>zc rfl (zc rfl ?_))<|fun c=>zc rfl (zc rfl ?_))
 ·have c:=w6 c;exact CO A B b a _ _ rfl ⟨fun _=>.inl ae,fun _=>rfl⟩ d e
 ·have c:=w7 c;exact CO A B b a _ _ rfl ⟨fun h=>.inr (by have:=w6 h;omega),fun h=>w4 ae⟩ d e
theorem C0(A B:Z)(a:Bool)(b:∀ob,Q (.dat i64<|E A B a false) ob):Ends N6 (L5 A B a) Q:=by
 refine zl (Dl ..)<|zc rfl (zm (fun c=>zc rfl (zc rfl ?_))<|fun c=>zc rfl (zc rfl ?_))
 ·have c:=w6 c;exact CO A B a false _ _ rfl ⟨fun _=>.inl ae,fun _=>rfl⟩ (fun h=>by cases h) b
 ·have c:=w7 c;exact CO A B a false _ _ rfl ⟨fun h=>.inr (by have:=w6 h;omega),fun h=>w4 ae⟩ (fun h=>by cases h) b
theorem FI(A B:Z)(a:Bool)(b:Au A=true/\(a=true->Au B=true))(d:∀ob,Q (.dat i64<|E A B a true) ob):Ends N6 (L6 A B a) Q:=by
 refine zl (CL ..)<|zc rfl (zm (fun c=>zc rfl (zc rfl ?_))<|fun c=>zc rfl (zc rfl ?_))
 ·have c:=w6 c;exact CO A B a true _ _ rfl ⟨fun _=>.inl ae,fun _=>rfl⟩ (fun _=>b) d
 ·have c:=w7 c;exact CO A B a true _ _ rfl ⟨fun h=>.inr (by have:=w6 h;omega),fun h=>w4 ae⟩ (fun _=>b) d
theorem XO{F:Tr}(A B:Z)(f:Bool)(j:B.length<=1000000)(k:Au A=true)(b:Bool)(a:b=(!f||(A6 B&&decide (B≠[48])&&decide (B≠[49]))))(g:∀ob,Q (.dat i64<|E A B f b) ob)
  (h:(f=true->Ends N6 (.ite (decide (B.length<=1000000)) (.ite (A6 B) (.ite (!B==[(48:UInt8)]) (L4 A B f<|!B==[(49:UInt8)])<|L5 A B f)<|L5 A B f) .fail) Q)->(f=false->b=true)->Ends N6 F Q):Ends N6 F Q:=by
 refine h (fun i=>zc (w4 j) ?_) (fun i=>by rw[a,i];rfl);rw[i]at a;refine zm (fun c=>zm (fun d=>?_)<|fun d=>?_)<|fun c=>?_
 ·have d:B≠[48]:=by simpa using d
  have e:b=(!B==[(49:UInt8)]):=by
   rw[a,c,w4 d];by_cases h:B=[49]
   ·rw[h];rfl
   ·rw[w4 h];simp[h]
  rw[<-e];exact Ck A B f b (fun _=>⟨k,fun _=>(IB c).2⟩) g
 ·have d:B=[48]:=by simpa using d
  have e:b=false:=by rw[a,w8<|fun h=>h d];simp
  rw[e]at g;exact C0 A B f g
 ·have e:b=false:=by rw[a,c];simp
  rw[e]at g;exact C0 A B f g
theorem Kr(s:Z):(AO s).length<=s.length/\(z6 s).length<=s.length:=by
 unfold AO z6;cases s.findIdx? (fun x=>x==47)with
 |none=>simp
 |some i=>simp;omega
theorem fQ(s:Z):(A9 s).length<=s.length:=by
 unfold A9;split
 ·simp
 ·exact yr _
theorem ok:Ae A1 163 EY:=by
 refine C3 Ade<|fun(a:Z) n=>?_;have n:a.length<=1000000:=w6 n;have l1:=fQ a;obtain⟨r,s⟩:=Kr<|A9 a;have j:∀b,b=H7 a->∀ob,Ac EY a (.dat i64<|E (AO<|A9 a) (z6<|A9 a) (B1<|A9 a) b) ob:=by
  rintro b rfl ob;exact zy rfl rfl rfl
 have i:H7 a=(A6 (AO<|A9 a)&&(!qk a||decide (AO (A9 a)≠[48]))&&(!B1 (A9 a)||(A6 (z6<|A9 a)&&decide (z6 (A9 a)≠[48])&&decide (z6 (A9 a)≠[49])))):=rfl;refine zr (Ai a) (zc (Ab (w4 rfl)<|w4 n) (zc (Ab (w4 rfl)<|w4 ae)<|zc (w4 ae) ?_));generalize AO (A9 a)=A at*;generalize z6 (A9 a)=B at*;generalize B1 (A9 a)=f at*;refine zm (fun c=>?_)<|fun c=>?_
 ·have k:=(IB c).2;refine zm (fun d=>?_)<|fun d=>?_
  ·have g:H7 a=(!f||(A6 B&&decide (B≠[48])&&decide (B≠[49]))):=by rw[i,c,d];rfl
   refine XO A B f ae k (H7 a) g (j _ rfl)<|fun p o=>zl (Al ..)<|zm p<|fun e=>?_;have m:=o e;exact FI A B f ⟨k,fun h=>by rw[e]at h;cases h⟩<|j true m.symm
  ·by_cases l:A=[48]
   ·have g:H7 a=false:=by rw[i,d,w8<|fun h=>h l];simp
    have q:(!A==[(48:UInt8)])=false:=by rw[l];rfl
    rw[q];refine zl (AA ..) (zm (fun e=>zo rfl (C0 A B f<|j false g.symm)) (fun e=>Ck A B f false (fun h=>by cases h)<|j false g.symm))
   ·have q:(!A==[(48:UInt8)])=true:=by simp[l]
    have g:H7 a=(!f||(A6 B&&decide (B≠[48])&&decide (B≠[49]))):=by rw[i,c,d,w4 l];rfl
    rw[q];refine XO A B f ae k (H7 a) g (j _ rfl)<|fun p o=>zl (AA ..)<|zm (fun e=>zc rfl (p e))<|fun e=>?_;have m:=o e;exact Ck A B f true (fun _=>⟨k,fun h=>by rw[e]at h;cases h⟩)<|j true m.symm
 ·have g:H7 a=false:=by rw[i,c];simp
  exact zl (Bo ..)<|zm (fun e=>C0 A B f<|j false g.symm)<|fun e=>C0 A B f<|j false g.symm
end T163
theorem Fo(c:UInt8)(r:Z):AO (c::r)=if c=47 then[]else c::AO r:=by
 unfold AO;grind
namespace T139
theorem As{Q:PV->Ob->Prop}(s:Z)(k:s.length<=9223372036854775807):∀(r:Z) (i:Nat),s.drop i=r->i<=s.length->(∀ob,Q (.dat i64 (((i+(AO r).length:Nat)):Int)) ob)->Ends Mh (L1 s i) Q
 |[],i,h,b,a=>by
  have g:i=s.length:=drop_nil h b;subst g;exact zl (Al ..) (zo (by simp)<|zj<|a _)
 |c::r,i,h,b,a=>by
  obtain⟨f,l,j⟩:=drop_cons (d:=0) h;have e:zf .i64 ((i:Int)+1)=((i+1:Nat):Int):=by grind [wr]
  rw[Fo]at a;refine zl (Al ..) (zc ah ?_);rw[zh,l,e];refine zc ah<|zm (fun d=>?_)<|fun d=>?_
  ·have m:c=47:=by
    exact yh.1 ah
   simp_all
  ·have m:c≠47:=by rintro rfl;grind
   refine As s k r (i+1) j f<|fun ob=>?_;grind
theorem ok:Ae A1 139 Rn:=by
 refine AX (X:=Mh) rfl FB (d:=9) (by rfl) (by rfl) (by rfl) (fun(s:Z) a=>?_) (Ak ag);have a:s.length<=1000000:=w6 a;refine zr (Ai s) (As s ae s 0 rfl ae (fun ob=>zy rfl rfl ?_));rw[qf];rfl
theorem zX:Ae A1 139 cD:=by
 refine AX (X:=Mh) rfl FB (d:=9) (by rfl) (by rfl) (by rfl) (fun(s:Z) a=>?_) (Ak ag);have a:s.length<=9223372036854775807:=w6 a;refine zr (Ai s) (As s a s 0 rfl ae (fun ob=>zy rfl rfl ?_));rw[qf];rfl
end T139
namespace T140
theorem Yr{s:Z}{r:Z}{c:UInt8}{i:Nat}(h:s.drop i=c::r):Au (s.drop i)=(B7 c&&Au (s.drop<|i+1)):=by
 obtain⟨_,_,a⟩:=drop_cons (d:=0) h;rw[a,h];rfl
theorem As(s:Z)(m:s.length<=9223372036854775807):∀(r:Z) (i:Nat),s.drop i=r->i<=s.length->(∀ob,Q (.bl<|Au<|s.drop i) ob)->Ends Mh (L1 s s i) Q
 |[],i,h,f,a=>by
  have k:i=s.length:=drop_nil h f;rw[h]at a;subst k;exact zl (Al ..) (zo (by simp)<|zj<|a _)
 |c::r,i,h,f,a=>by
  obtain⟨j,n,l⟩:=drop_cons (d:=0) h;have g:zf .i64 ((i:Int)+1)=((i+1:Nat):Int):=by grind [wr]
  rw[Yr h]at a;refine zl (Al ..) (zc ah ?_);rw[zh,n,g];refine zc ah (zm (fun d=>?_)<|fun d=>zc ah<|zm (fun e=>?_)<|fun e=>?_)
  ·grind [B7,zj]
  ·have b:B7 c=false:=by unfold B7;grind
   simp_all
  ·have b:B7 c=true:=by grind [B7]
   rw[b,yk]at a;exact As s m r (i+1) l j a
theorem Bc(s:Z)(m:s.length<=9223372036854775807):∀(r:Z) (i:Nat),s.drop i=r->i<=s.length->(∀ob,Q (.bl<|Au<|s.drop i) ob)->Ends Mh (L2 s s i) Q
 |[],i,h,f,a=>by
  have k:i=s.length:=drop_nil h f;rw[h]at a;subst k;exact zl (AA ..) (zo (by simp)<|zj<|a _)
 |c::r,i,h,f,a=>by
  obtain⟨j,n,l⟩:=drop_cons (d:=0) h;have g:zf .i64 ((i:Int)+1)=((i+1:Nat):Int):=by grind [wr]
  rw[Yr h]at a;refine zl (AA ..) (zc ah ?_);rw[zh,n,g];refine zc ah (zm (fun d=>?_)<|fun d=>zc ah<|zm (fun e=>?_)<|fun e=>?_)
  ·grind [B7,zj]
  ·have b:B7 c=false:=by unfold B7;grind
   simp_all
  ·have b:B7 c=true:=by grind [B7]
   rw[b,yk]at a;exact Bc s m r (i+1) l j a
theorem zX:Ae A1 140 VP:=by
 refine AX (X:=Mh) rfl FB (d:=9) (by rfl) (by rfl) (by rfl) (fun(s:Z) a=>?_) (Ak ag);have a:s.length<=9223372036854775807:=w6 a;have f:∀b ob,b=A6 s->Ac VP s (.bl b) ob:=fun b ob g=>zy rfl rfl g
 refine zr (Ai s) ?_;conv=>zeta
 cases s with
 |nil=>exact zc rfl (zj<|f _ _ rfl)
 |cons c r=>
  have h:(c::r).getD 0 0=c:=rfl;rw[h];refine zo (by rfl) (zm (fun d=>zc (by simp)<|zm (fun e=>zj<|f _ _ ?_)<|fun e=>?_)<|fun d=>?_)
  ·have i:c=48:=by
    exact yh.1 ah
   grind [A6]
  ·have i:c≠48:=by rintro rfl;grind
   refine As (c::r) a (c::r) 0 rfl ae (fun ob=>f _ _ ?_);grind [A6]
  ·have hr:r=[]:=by
    grind
   subst hr;refine Bc [c] a [c] 0 rfl ae (fun ob=>f _ _ ?_);grind [A6]
end T140
theorem Ac9:Cr XK2:=Aa T149.ok AI
namespace T143
theorem Sc{v:Int}(a: -9223372036854775808<=v/\v<9223372036854775808):∃q d:Nat,Aj v=d+1000000000*q/\d<1000000000/\zf .i64 (y9 v 1000000000)=(if v<0 then -(q:Int)else q)/\qj v 1000000000=(if v<0 then -(d:Int)else d):=by
 refine⟨v.natAbs/1000000000,v.natAbs % 1000000000,by rw[An];omega,by omega,?_,?_⟩
 ·by_cases h:v<0
  ·have:=Int.neg_tdiv (-v) 1000000000;rw[Int.neg_neg]at this;rw[this,yn ae,wd h,wr _ ae ae];omega
  ·rw[yn ae,wc h,wr _ ae ae];omega
 ·by_cases h:v<0
  ·have:=Int.neg_tmod (-v) 1000000000;grind
  grind
theorem Bc(neg:Bool)(D:Int)(l:∀(w:List Int) ob,AD zd w->ze zd w=D->Q (.agg [.dat .bool<|CY neg w,.dat li<|AE w]) ob):∀(f:Nat) (v:Int) (o1:List Int),Aj v<f->(-9223372036854775808<=v/\v<9223372036854775808)->o1.length<=100->(Aj v≠0->Aj v*1000000000^o1.length<=9223372036854775808)->AD zd o1->ze zd o1+(zd:Int)^o1.length*Aj v=D->Ends XK2 (L2 v o1.length neg o1) Q
 |0,v,o1,j,a,n,i,e,h=>by
  have:=AS v;omega
 |f+1,v,o1,j,a,n,i,e,h=>by
  obtain⟨q,d,s1,s2,s3,s4⟩:=Sc a;by_cases h0:v=0
  ·subst h0;have p:Aj 0=0:=rfl;refine zl (AA ..)<|zo rfl ?_;grind [zc,zj]
  ·have m:Aj v≠0:=by rw[An];omega
   have b:o1.length<=10:=by
    rcases Nat.lt_or_ge 10 o1.length with g|g
    ·have k:(1000000000:Int)^11<=1000000000^o1.length:=AY af g;have o:=zt (show 1<=Aj v by omega) (show(0:Int)<=1000000000^o1.length by omega);omega
    omega
   have eq:Aj (if v<0 then -(q:Int)else q)=q:=by grind [An]
   have go:Ends XK2 (L2 (if v<0 then -(q:Int)else q) (qn o1.length 1) neg<|o1++[(d:Int)]) Q:=by
    have:=Bc neg D l f (if v<0 then -(q:Int)else q) (o1++[(d:Int)]) ae (by grind [An]) ah (fun _=>by
     rw[eq,yb];show(q:Int)*1000000000^(o1.length+1)<=_;rw[yo, <-y7,Int.mul_right_comm];have k:=zt (show(q:Int)*1000000000<=Aj v by omega) (show(0:Int)<=1000000000^o1.length from ah);omega) (Gs e ae) (by
     rw[eq,CH,yb];show ze zd o1+(zd:Int)^o1.length*(d:Int)+(zd:Int)^(o1.length+1)*(q:Int)=D;grind)
    grind
   refine zl (AA ..) (zc ah<|zc rfl ?_);refine zm (fun c=>zc ah<|zc rfl ?_) (fun c=>zc ah<|zc rfl ?_)
   ·have r:zf .i64 (0 - -(d:Int))=(d:Int):=by grind [wr]
    grind
   grind
theorem ok:Ae A1 143 I3:=by
 refine AX (X:=XK2) rfl Ac9 (d:=9) (by rfl) (by rfl) (by rfl) (fun(v:Int) a=>?_) (Ak ag);have a:=Hq (n:=v) a;have fin:∀(w:List Int) ob,AD zd w->ze zd w=Aj v->Ac I3 v (.agg [.dat .bool<|CY (decide (v<0)) w,.dat li<|AE w]) ob:=by
  intro w ob g f;refine zy rfl rfl ?_;have:=N0 (neg:=decide (v<0)) g f;have e:(if decide (v<0)=true then -Aj v else Aj v)=v:=by
   rw[An];grind
  rw[e]at this;exact this
 obtain⟨q,d,s1,s2,s3,s4⟩:=Sc a;refine zr (Ai v) ?_;conv=>zeta
 by_cases h0:v=0
 ·subst h0;exact zl (Al ..) (zo rfl (zc rfl (zj<|fin [] _ (fun x b=>by cases b) rfl)))
 ·have eq:Aj (if v<0 then -(q:Int)else q)=q:=by grind [An]
  have go:Ends XK2 (L2 (if v<0 then -(q:Int)else q) 1 (decide (v<0)) [(d:Int)]) (Ac I3 v):=by
   refine Bc (decide (v<0)) (Aj v) fin (q+1) _ [(d:Int)] ae (by grind [An]) (by simp) (fun _=>?_) (fun x b=>by grind) ?_
   ·grind [An]
   grind [ET]
  refine zl (Al ..) (zc ah<|zc rfl ?_);refine zm (fun c=>zc rfl (zc rfl ?_))<|fun c=>zc rfl (zc rfl ?_)
  ·have h:zf .i64 (0 - -(d:Int))=(d:Int):=by grind [wr]
   grind
  grind
end T143
theorem AaW:Cr XK3:=Aa T139.ok<|Aa T138.ok<|Aa T143.ok AI
theorem Cc:∀(s:Z),AO s=s.take (AO s).length/\(B1 s=true->(AO s).length<s.length/\z6 s=s.drop ((AO s).length+1))/\(B1 s=false->AO s=s/\z6 s=[])
 |[]=>⟨rfl,(fun h=>(by cases h)),fun _=>⟨rfl,rfl⟩⟩
 |c::r=>by
  obtain⟨d,f,e⟩:=Cc r;have b:z6 (c::r)=if c=47 then r else z6 r:=by
   unfold z6;grind
  have a:B1 (c::r)=(decide (c=47)||B1 r):=by
   rfl
  rw[Fo,b,a];grind
theorem T82.ok:Ae A1 82 P3:=by
 refine AX (X:=XK3) rfl AaW (d:=9) (by rfl) (by rfl) (by rfl) (fun(a:Z) b=>?_) (Ak ag);have b:(DR (AO a)&&DR (z6 a)&&decide (a.length<=5999))=true:=b;rw[zi,zi,w5]at b;obtain⟨⟨f,j⟩,l⟩:=b;obtain⟨c1,c2,c3⟩:=Cc a;have es:A8 a=((AO a).length:Int):=rfl;refine zr (T82.Ai a) (zc ah<|zm (fun c=>?_)<|fun c=>?_)
 ·have e:B1 a=false:=by
   grind
  obtain⟨g,h⟩:=c3 e;rw[g]at f;refine zc f<|zc rfl (zj<|zy rfl rfl ?_);show((G0 a,Eu a),(false,Sp.rW 1))=((B3 a,BS a),(By a,Bt a));unfold B3 BS By Bt Bs A5 G0 Eu;rw[g,e];rfl
 ·have e:B1 a=true:=by
   grind
  obtain⟨g,h⟩:=c2 e;have i:zf .i64 (((AO a).length:Int)+1)=(((AO a).length+1:Nat):Int):=by grind [wr]
  have k:(a.drop<|(AO a).length+1).take (ym a.length<|(AO a).length+1)=a.drop ((AO a).length+1):=zn (by simp);rw[es,i,zh,zh,k, <-c1, <-h];refine zc ah (zc ah<|zc f<|zc j<|zj<|zy rfl rfl ?_);show((G0<|AO a,Eu<|AO a),(G0<|z6 a,Eu<|z6 a))=((B3 a,BS a),(By a,Bt a));grind [B3,BS,By,Bt,Bs,A5,G0,Eu]
theorem hI:Cr VS:=Aa T139.zX (by grind [Aa,T140.zX,T82.ok,T141.ok,FM])
namespace T78
theorem Acr{g:Int}(h0:0<=g):B0 g=[1]↔g=1:=by
 constructor
 ·intro h;have:=Du (b:=zd) af h0;have h:Sp.dg zd g=[1]:=h;rw[h]at this;rw[<-this];rfl
 ·rintro rfl;rfl
theorem Ck(s:Z)(l:Au (AO s)=true)(b:B1 s=true->Au (z6 s)=true)(p:(AO s).length<=600)(q:(z6 s).length<=600)(A:s.length<=5999)
  (a:∀ob,Q (.dat i64<|if B1 s=true/\qc (AK 0<|AO s) (AK 0<|z6 s)≠1 then 1 else 0) ob):Ends VS (L4 s<|A8 s) Q:=by
 obtain⟨z,C,B⟩:=Cc s;have es:A8 s=((AO s).length:Int):=rfl;refine zl (BX ..) ?_;conv=>zeta
 refine zm (fun c=>?_)<|fun c=>?_
 ·have i:B1 s=true:=by
   grind
  have b:=b i;obtain⟨F,D⟩:=Mm l ae;obtain⟨r3,r4⟩:=Mm b ae;have f:=Br l;have e:=Br b;have m:∀k:Nat,(10:Int)^k<=(zd:Int)^k:=by
   intro k;induction k with
   |zero=>simp
   |succ k E=>
    grind
  have n:AK 0 (AO s)<(zd:Int)^600:=zz f.2 (Int.le_trans (m _)<|AY af p);have o:AK 0 (z6 s)<(zd:Int)^600:=zz e.2 (Int.le_trans (m _) (AY af q));have r:BS s=B0 (AK 0<|AO s):=by
   grind [BS,Bs,Sp.rW,An]
  have t:Bt s=B0 (AK 0<|z6 s):=by
   unfold Bt A5 Sp.rW;rw[wd i,r4,show Aj (AK 0<|z6 s)=AK 0 (z6 s)by rw[An];omega]
  obtain⟨n1,_,v1,l1⟩:=GJ (k:=600) f.1 n af;obtain⟨n2,_,v2,l2⟩:=GJ (k:=600) e.1 o af;have rat:D8 s=true:=by
   grind [D8]
  rw[r,t];refine zc rat (zl (Dl ..) (zc ah ?_));have w:CN (B0<|AK 0<|AO s) (B0<|AK 0<|z6 s)=B0 (qc (AK 0<|AO s)<|AK 0<|z6 s):=by
   grind [CN]
  rw[w];obtain⟨v,_⟩:=Ady f.1 e.1 n o;generalize qc (AK 0<|AO s) (AK 0<|z6 s)=g at*;have y:=Acr v;by_cases h:g=1
  ·rw[wc ae]at a;rw[y.2 h];exact zl (CL ..)<|zo rfl (zc rfl (zo rfl (zj<|a _)))
  ·rw[wd ⟨i,h⟩]at a;have j:B0 g≠[1]:=ah;refine zl (CL ..)<|zm (fun d=>zj<|a _)<|fun d=>?_;have d:(B0 g).length=1:=by
    grind
   obtain⟨x,u⟩:=qg.1 d;rw[u]at j ⊢;exact zc rfl (by grind [zc,zj])
 ·rw[wc ah]at a;exact zj<|a _
theorem Bc(s:Z)(i:Au (AO s)=true)(l:s.length<=9223372036854775807)(a:∀ob,Q (.dat i64<|T163.E (AO s) (z6 s) (B1 s)<|!B1 s||(A6 (z6 s)&&decide (z6 s≠[48])&&decide (z6 s≠[49]))) ob):Ends VS (L2 s<|A8 s) Q:=by
 obtain⟨j,h,o⟩:=Cc s;have es:A8 s=((AO s).length:Int):=rfl;have g:=T163.Kr s;have big:(B1 s=true->Au (z6 s)=true)->(∀ob,Q (.dat i64<|T163.E (AO s) (z6 s) (B1 s) true) ob)->Ends VS (L3 s<|A8 s) Q:=by
  intro m a;unfold T163.E at a;rw[wc af]at a;have b:s.length=(AO s).length+(if B1 s=true then 1+(z6 s).length else 0):=by
   grind
  refine zl (Bo ..) ?_;conv=>zeta
  rw[es,wr ((s.length:Int)-((AO s).length:Int)) ae ae,wr _ ae ae];refine zm (fun c=>?_)<|fun c=>zm (fun d=>?_)<|fun d=>?_
  ·have c:=w6 c;rw[wd<|ae]at a;exact zj<|a _
  ·have:600<(z6 s).length:=ah
   rw[wd<|.inr this]at a;exact zj<|a _
  ·grind [Ck]
 refine zl (AA ..) ?_;conv=>zeta
 cases n:B1 s with
 |false=>
  grind [zo]
 |true=>
  have k:zf .i64 (((AO s).length:Int)+1)=(((AO s).length+1:Nat):Int):=by grind [wr]
  have bad:(!true||(A6 (z6 s)&&decide (z6 s≠[48])&&decide (z6 s≠[49])))=false->∀ob,Q (.dat i64 1) ob:=by
   grind [T163.E]
  refine zc ah (zc ah<|zc ah<|zm (fun d=>zj<|bad ?_ _)<|fun d=>zc ah<|zm (fun e=>zj<|bad ?_ _)<|fun e=>zc ah<|zm (fun f=>zj<|bad ?_ _)<|fun f=>?_)
  ·grind
  ·grind
  ·grind
  grind [IB]
theorem As(a s:Z)(i:s=A9 a)(m:a.length<=9223372036854775807)(n:∀ob,Q (.dat i64<|Ao a) ob):Ends VS (L1 a s) Q:=by
 obtain⟨c,k,o⟩:=Cc s;have es:A8 s=((AO s).length:Int):=rfl;have b:s.length<=a.length:=by grind [T163.fQ]
 have j:Ao a=T163.E (AO s) (z6 s) (B1 s) (A6 (AO s)&&(!qk a||decide (AO s≠[48]))&&(!B1 s||(A6 (z6 s)&&decide (z6 s≠[48])&&decide (z6 s≠[49])))):=by rw[i];rfl
 have tk:s.take (AO s).length=AO s:=c.symm;refine zl (Al ..) ?_;conv=>zeta
 rw[show A8 s=((AO s).length:Int)from rfl,zh,tk];refine zc ah (zc ah<|zc ah<|zm (fun d=>?_)<|fun d=>?_)
 ·grind [zj,T163.E]
 ·have d:A6 (AO s)=true:=ah
  have l:=(IB d).2;have g:a.length≠0:=by
   grind [A6]
  refine zc ah (zm (fun e=>zc ah<|zm (fun f=>?_)<|fun f=>?_)<|fun e=>?_)
  ·have hp:qk a=true:=by
    refine w4<|yh.1 ?_;grind
   grind [zj,T163.E]
  ·grind [Bc]
  ·have hp:qk a=false:=by
    refine w8<|fun h=>?_;rw[h]at e;grind
   grind [Bc]
theorem zX:Ae A1 78 UN:=by
 refine AX (X:=VS) rfl hI (d:=9) (by rfl) (by rfl) (by rfl) (fun(a:Z) b=>?_) (Ak ag);have b:a.length<=9223372036854775807:=w6 b;have e:∀ob,Ac UN a (.dat i64<|Ao a) ob:=fun ob=>zy rfl rfl rfl
 refine zr (Ai a) ?_;conv=>zeta
 cases a with
 |nil=>exact zo rfl (As [] [] rfl b e)
 |cons c r=>
  have f:(c::r).getD 0 0=c:=rfl;rw[f];refine zc (by simp) (zc (by simp)<|zm (fun d=>zc (by simp) ?_)<|fun d=>?_)
  ·have g:c=45:=by
    exact yh.1 ah
   simp_all [As,A9]
  ·have g:c≠45:=by rintro rfl;grind
   simp_all [As,A9]
theorem ok:Ae A1 78 EY:=by
 refine AX (X:=VS) rfl hI (d:=9) (by rfl) (by rfl) (by rfl) (fun(a:Z) f=>?_) (Ak ag);have f:a.length<=1000000:=w6 f;have b:∀ob,Ac EY a (.dat i64<|Ao a) ob:=fun ob=>zy rfl rfl rfl
 refine zr (Ai a) ?_;conv=>zeta
 cases a with
 |nil=>exact zo rfl (As [] [] rfl ae b)
 |cons c r=>
  have g:(c::r).getD 0 0=c:=rfl;rw[g];refine zc (by simp) (zc (by simp)<|zm (fun d=>zc (by simp) ?_)<|fun d=>?_)
  ·have h:c=45:=by
    exact yh.1 ah
   have e:(qd 1 (c::r)).take (ym (c::r).length 1)=r:=by simp
   rw[e];exact As (c::r) r (by simp_all [A9]) ae b
  ·have h:c≠45:=by rintro rfl;grind
   exact As (c::r) (c::r) (by simp_all [A9]) ae b
end T78
theorem Hx:Cr XA0:=
 Aa T134.ok (Aa T162.ok<|Aa T184.ok<|Aa T171.ok<|Aa T68n.ok<|Aa T124.ok<|Aa T125.ok<|Aa T67.ok<|Aa T159.ok<|Aa T160.ok AI)
theorem FJ{a:AL}(h:PF a=true):Bk a=true/\Aj (zu a)<(Av:Int)^4000:=by
 unfold PF at h;rw[zi,w5]at h;refine⟨?_,J7 h.1 h.2 af⟩;unfold Bk;exact Ab h.1 (w4 ae)
theorem MY{x y:Int}(a:Aj x<(Av:Int)^4000)(c:Aj y<(Av:Int)^4000):Aj (x*y)<(Av:Int)^8000:=by
 rw[KT];have h0:=AS x;have hp:=Bn (b:=Av) af 4000;have a1:=zk (z8 c) h0;have a2:=ye a hp;have a3:(Av:Int)^4000*(Av:Int)^4000=(Av:Int)^8000:=(Int.pow_add _ 4000 4000).symm;rw[a3]at a2;exact Int.lt_of_le_of_lt a1 a2
theorem Akb{x:Int}(h:x<(Av:Int)^8000):x<(Av:Int)^9000:=zz h (AY af af)
theorem Ve{x y:Int}(a:Aj x<(Av:Int)^4000)(b:Aj y<(Av:Int)^4000):Bk (DB<|x*y)=true:=Eh<|Akb<|MY a b
theorem Ahd{a b:AL}(f:Bk a=true)(e:Bk b=true)(h:Aj (zu a+zu b)<(Av:Int)^9000):Bk (Fc a b)=true:=by
 have d:=Wg f e;unfold Fc at d ⊢;split
 ·rename_i c;rw[wd c]at d;unfold Bk;exact Ab d rfl
 ·exact Eh h
theorem AaF(n:Nat):(2:Int)*(Av:Int)^n<=(Av:Int)^(n+1):=by
 rw[yo,ya];exact zk af (z8 (Bn (b:=Av) af n))
theorem pC{x y:Int}(c:Aj x<(Av:Int)^8000)(d:Aj y<(Av:Int)^8000):Aj (x+y)<(Av:Int)^9000:=by
 have a:=AaF 8000;have b:(Av:Int)^8001<=(Av:Int)^9000:=AY af af;have a:(2:Int)*(Av:Int)^8000<=(Av:Int)^8001:=a;generalize (Av:Int)^8000=p at*;generalize (Av:Int)^8001=q at*;generalize (Av:Int)^9000=r at*;rw[An]at*;omega
theorem Yk(a:AL):decide (Jh a<0)=decide (zu a<0):=by
 unfold Jh Sp.Pm;rw[qi,w5,w5];split
 ·omega
 ·split<;>omega
theorem eG{n d:AL}(h:JU n d=true):Bk n=true/\Bk d=true/\zu d≠0:=by
 unfold JU at h;rw[zi,zi,w5]at h;exact⟨h.1.1,h.1.2,h.2⟩
theorem T96.ok:Ae A1 96 M7:=by
 refine C3 Hx<|fun(a:Z) b=>?_;have b:(DR (AO a)&&DR (z6 a)&&decide (a.length<=5999))=true:=b;rw[zi,zi,w5]at b;obtain⟨⟨d,e⟩,f⟩:=b;refine zr (T96.Ai a) (zc (Ab (w4 rfl)<|w4 ae)<|zm (fun c=>zc d<|zc rfl (zj<|zy rfl rfl ?_))<|fun c=>zc d<|zc e<|zj<|zy rfl rfl ?_)
 ·have c:B1 a=false:=by simpa using c
  show((DL<|AO a,DJ<|AO a),((1:Int),BA 1))=((S7 a,S0 a),(Qt a,SD a));unfold Qt SD A5;rw[c,PW];rfl
 ·have c:B1 a=true:=by simpa using c
  show((DL<|AO a,DJ<|AO a),(DL<|z6 a,DJ<|z6 a))=((S7 a,S0 a),(Qt a,SD a));unfold Qt SD A5;rw[c];rfl
theorem T172.ok:Ae A1 172 cIQ:=by
 refine C3 Hx<|fun(i:(Int×List Int)×(Int×List Int)) hi=>?_;obtain⟨a,b⟩:=i;obtain⟨ha,hb,h0⟩:=eG (n:=a) (d:=b) hi;refine zr (T172.Ai a b)<|zc (Cg hb).1 ?_;rw[Yk];refine zm (fun c=>zc (Cg ha).1<|zc (Cg hb).1<|zl (T172.Al ..)<|zc ?_<|zj<|zy rfl rfl ?_)<|fun c=>zl (T172.Al ..)<|zc ?_<|zj<|zy rfl rfl ?_
 ·have c:zu b<0:=w6 c;have:=JT b;exact Ab (Ab (YE ha)<|YE hb) (w4<|by show 0<zu (DH b);omega)
 ·have c:zu b<0:=w6 c;show Hb (DH a) (DH b)=Sp.iQ a b;unfold Sp.iQ;rw[wd c]
 ·have c:¬zu b<0:=w7 c;exact Ab (Ab ha hb) (w4 (by show 0<zu b;omega))
 ·have c:¬zu b<0:=w7 c;show Hb a b=Sp.iQ a b;unfold Sp.iQ;rw[wc c]
theorem Ada:Cr XA1:=Aa T134.ok<|Aa T162.ok<|Aa T171.ok<|Aa T172.ok AI
theorem Ad5{n d:AL}(c:Bk d=true)(h0:zu d≠0):Bk (Sp.gR n d)=true/\zu (Sp.gR n d)=(qq (zu n) (zu d):Int)/\0<zu (Sp.gR n d):=by
 have e:zu (Sp.gR n d)=(qq (zu n) (zu d):Int):=by
  show zu (De _,Dd _)=_;rw[MX,HL]
 have hp:0<qq (zu n) (zu d):=Int.gcd_pos_of_ne_zero_right _ h0;refine⟨HU<|Eh ?_,e,by rw[e];omega⟩;rw[HL,An,Int.natAbs_natCast];have b:=bounds c;rw[An]at b;have a:qq (zu n) (zu d)<=(zu d).natAbs:=Nat.gcd_le_right _ ae;omega
namespace T120
theorem As(f z2:Int)(n d:AL)(g:Bk n=true)(b:Bk d=true)(h0:zu d≠0)(a:∀ob,Q (.agg [.dat i64 (Pw n d).1.1,.dat (.nlist u64) (Pw n d).1.2,.dat i64 (Pw n d).2.1,.dat (.nlist u64) (Pw n d).2.2]) ob):
  Ends XA1 (L1 f z2 d.1 d.2 n.1 n.2) Q:=by
 obtain⟨h,_,l⟩:=Ad5 (n:=n) b h0;have next:Di d=false->Ends XA1 (.ite (Bk (n.1,n.2)&&Bk (d.1,d.2)) (L2 (O2 (n.1,n.2) (d.1,d.2)) (O0 (n.1,n.2) (d.1,d.2)) f z2 d.1 d.2 n.1 n.2) .fail) Q:=by
  intro j;unfold Pw at a;rw[wc<|by rw[j];decide]at a;have k:∀x:AL,Bk x=true->JU x (Sp.gR n d)=true:=fun x i=>by unfold JU;exact Ab (Ab i h) (w4 ae)
  exact zc (Ab g b)<|zl (AA ..)<|zc (k n g)<|zc (k d b)<|zj<|a _
 refine zl (Al ..)<|zm (fun c=>zm (fun e=>zj ?_)<|fun e=>next ?_)<|fun c=>next ?_
 ·have c:d.2=[]:=by simpa using c
  have e:d.1=1:=by simpa using e
  unfold Pw at a;rw[wd<|by unfold Di;simp[c,e]]at a;exact a _
 ·unfold Di;rw[Bool.and_eq_false_iff];right;simpa using e
 ·unfold Di;rw[Bool.and_eq_false_iff];left;have:d.2≠[]:=by rintro k;rw[k]at c;simp at c
  simpa using this
theorem ok:Ae A1 120 dK:=by
 refine C3 Ada<|fun(i:(Int×List Int)×(Int×List Int)) hi=>?_;obtain⟨n,d⟩:=i;obtain⟨hn,hd,h0⟩:=eG (n:=n) (d:=d) hi;have vn:=JT d;refine zr (Ai n d)<|zc (Cg hd).1 ?_;rw[Yk];refine zm (fun c=>zc (Cg hn).1<|zc (Cg hd).1<|As 0 0 (DH n) (DH d) (YE hn) (YE hd) ae<|fun ob=>zy rfl rfl ?_)<|fun c=>As 0 0 n d hn hd h0<|fun ob=>zy rfl rfl ?_
 ·have c:zu d<0:=w6 c;show Pw (DH n) (DH d)=TW n d;unfold TW;rw[wd c]
 ·have c:¬zu d<0:=w7 c;show Pw n d=TW n d;unfold TW;rw[wc c]
end T120
theorem T123.ok:Ae A1 123 RR:=by
 refine C3 Hx<|fun(a:(Int×List Int)×(Int×List Int)) _=>?_;refine zr (T123.Ai a)<|zm (fun c=>zj<|zy rfl rfl ?_)<|fun c=>zj<|zy rfl rfl ?_
 ·have c:a.2.2=[]:=by simpa using c
  show(a.2.1==(1:Int))=Di a.2;unfold Di;rw[w4 c,yk];rfl
 ·have c:a.2.2≠[]:=by rintro k;rw[k]at c;simp at c
  show false=Di a.2;unfold Di;rw[w8 c,Bool.false_and]
theorem T121.ok:Ae A1 121 vB:=by
 refine C3 Hx<|fun(a:Int×List Int) _=>?_;exact zr (T121.Ai a)<|zc rfl (zj<|zy rfl rfl rfl)
theorem T131.ok:Ae A1 131 Ad4:=by
 refine C3 Hx<|fun(a:(Int×List Int)×(Int×List Int)) h=>?_;exact zr (T131.Ai a)<|zc h<|zj<|zy rfl rfl rfl
theorem T73.ok:Ae A1 73 OW:=by
 refine C3 Hx<|fun(i:((Int×List Int)×(Int×List Int))×((Int×List Int)×(Int×List Int))) c=>?_;obtain⟨a,b⟩:=i;have c:((PF a.1&&PF a.2)&&(PF b.1&&PF b.2))=true:=c;rw[zi,zi,zi]at c;obtain⟨⟨a1,a2⟩,b1,b2⟩:=c;obtain⟨a1,la1⟩:=FJ a1;obtain⟨a2,la2⟩:=FJ a2;obtain⟨b1,lb1⟩:=FJ b1;obtain⟨b2,lb2⟩:=FJ b2;refine zr (T73.Ai a b)<|zc (Ab a1 b2)<|zc (Ab b1 a2)<|zc (Ab (Ve la1 lb2)<|Ve lb1 la2)<|zj<|zy rfl rfl ?_;show Cd (zu<|Gk a.1 b.2) (zu<|Gk b.1 a.2)=Cd _ _;rw[D9,D9]
theorem GY{a:Ad}(h:qp a=true):Bk a.1=true/\Bk a.2=true/\Aj (zu a.1)<(Av:Int)^4000/\Aj (zu a.2)<(Av:Int)^4000/\0<zu a.2:=by
 unfold qp Sp.BJ at h;rw[zi,zi,w5]at h;obtain⟨a1,b⟩:=FJ h.1.1;obtain⟨a2,b2⟩:=FJ h.1.2;exact⟨a1,a2,b,b2,h.2⟩
theorem V0:Cr XA2:=Aa T123.ok<|Aa T121.ok<|Aa T124.ok<|Aa T125.ok<|Aa T120.ok AI
theorem UU{n d:AL}(b:Bk n=true)(a:Bk d=true)(h0:zu d≠0):JU n d=true:=by
 unfold JU;exact Ab (Ab b a)<|w4 h0
theorem PI{a b:AL}(c:Aj (zu a)<(Av:Int)^4000)(d:Aj (zu b)<(Av:Int)^4000):Bk (Gk a b)=true:=Ve c d
theorem T65.ok:Ae A1 65 QR:=by
 refine C3 V0<|fun(i:((Int×List Int)×(Int×List Int))×((Int×List Int)×(Int×List Int))) c=>?_;obtain⟨a,b⟩:=i;have c:(qp a&&qp b)=true:=c;rw[zi]at c;obtain⟨a1,a2,la1,la2,a0⟩:=GY c.1;obtain⟨b1,b2,lb1,lb2,b0⟩:=GY c.2;have d:zu (Gk a.2 b.2)≠0:=by rw[D9];exact Int.ne_of_gt<|Int.mul_pos a0 b0
 exact zr (T65.Ai a b)<|zc (Ab a1 b1)<|zc (Ab a2 b2)<|zc (UU (PI la1 lb1) (PI la2 lb2) d)<|zj<|zy rfl rfl rfl
namespace T59
theorem As(j z2:Int)(a b:Ad)(g:qp a=true)(e:qp b=true)(h:∀ob f,f=TW (Fc (Gk a.1 b.2)<|Gk b.1 a.2) (Gk a.2 b.2)->Q (.agg [.dat i64 f.1.1,.dat (.nlist u64) f.1.2,.dat i64 f.2.1,.dat (.nlist u64) f.2.2]) ob):
  Ends XA2 (L1 j z2 b.1.1 b.1.2 b.2.1 b.2.2 a.1.1 a.1.2 a.2.1 a.2.2) Q:=by
 obtain⟨a1,a2,d,c,a0⟩:=GY g;obtain⟨b1,b2,lb1,lb2,b0⟩:=GY e;have i:zu (Gk a.2 b.2)≠0:=by rw[D9];exact Int.ne_of_gt<|Int.mul_pos a0 b0
 have k:Bk (Fc (Gk a.1 b.2)<|Gk b.1 a.2)=true:=Ahd (PI d lb2) (PI lb1 c) (by rw[D9,D9];exact pC (MY d lb2)<|MY lb1 c);exact zl (Al ..)<|zc (Ab a1 b2)<|zc (Ab b1 a2)<|zc (Ab (PI d lb2)<|PI lb1 c)<|zc (Ab a2 b2)<|zc (UU k (PI c lb2) i)<|zj<|h _ _ rfl
theorem ok:Ae A1 59 JG:=by
 refine C3 V0<|fun(i:((Int×List Int)×(Int×List Int))×((Int×List Int)×(Int×List Int))) e=>?_;obtain⟨a,b⟩:=i;have e:(qp a&&qp b)=true:=e;rw[zi]at e;obtain⟨a1,a2,la1,la2,a0⟩:=GY e.1;obtain⟨b1,b2,lb1,lb2,b0⟩:=GY e.2;have g:¬(Di a.2=true/\Di b.2=true)->Ends XA2 (L1 0 0 b.1.1 b.1.2 b.2.1 b.2.2 a.1.1 a.1.2 a.2.1 a.2.2) (Ac JG (a,b)):=fun j=>
  As 0 0 a b e.1 e.2 (fun ob f h=>zy rfl rfl (by
   show f=B4 a b;unfold B4;rw[wc j];exact h))
 refine zr (Ai a b) (zc rfl (zm (fun c=>zc rfl (zm (fun d=>zc (Ab a1 b1)<|zc rfl (zj<|zy rfl rfl ?_))<|fun d=>g (fun k=>by have:=k.2;rw[show Di b.2=false from d]at this;cases this)))<|fun c=>g (fun k=>by have:=k.1;rw[show Di a.2=false from c]at this;cases this)));show Sp.fWh (Fc a.1 b.1)=B4 a b;unfold B4;rw[wd ⟨c,d⟩]
end T59
theorem T161.ok:Ae A1 161 Adn:=by
 refine C3 V0<|fun(a:(Int×List Int)×(Int×List Int)) b=>?_;have b:(qp a&&decide (zu a.1≠0))=true:=b;rw[zi,w5]at b;obtain⟨a1,a2,d,c,a0⟩:=GY b.1;exact zr (T161.Ai a)<|zc (UU a2 a1 b.2)<|zj<|zy rfl rfl rfl
end Go.Pe
